/-
  Part of a proof about the package floodgatelaw02 (shortened by a program). Conditions: none.
-/
import Derived.Test.YthbifneaknlfgaaGreatDoorHP26
set_option linter.unusedSimpArgs false
set_option linter.unusedVariables false
open List renaming length_cons→Ga,length_nil→Gb,length_drop→Gf,mem_of_mem_take→Gh,mem_of_mem_drop→Gi,drop→Gd,length_take→Gj,take_of_length_le→Gl,take→Gg,getD_cons_zero→Gm,getD_cons_succ→Gn
open Int renaming cast_ofNat_Int→Gc
noncomputable section
section
set_option maxRecDepth 100000
set_option maxHeartbeats 4000000
open Go.Proofs
namespace Go.Cm
structure RO (t:Tr) (x:Nd):Prop where
 shp:Shp x
 text:x.text.length≤60
 n:InR .i64 x.n
 few:x.kids.length≤30
 rng:∀ k∈x.kids,0≤k∧k < t.nodes.length
 txt:∀ k∈x.kids,J3 t k
 len:∀ k∈x.kids,(Ja t.nodes k).length≤300000
theorem RO.op {t:Tr}{x:Nd}(h:RO t x) {k:Int}(hk:k∈x.kids) (r:Int):Fn Tryz.prog 52 [t.cv,.int .i64 k,.int .i64 r] (S (opx (Jb t.nodes) (Ja t.nodes) k r))∧(opx (Jb t.nodes) (Ja t.nodes) k r).length≤300004:=by
 have h1:=h.rng k hk
 have h2:=h.len k hk
 have h3:=Jdy (kd:=Jb t.nodes) (T:=Ja t.nodes) k r
 exact ⟨refOperand t k r h1.1 h1.2 (h.txt k hk) (by omega),by omega⟩
theorem RO.sum {t:Tr}{x:Nd}(h:RO t x):sumL (Ja t.nodes) x.kids≤30*300004:=by
 have:∀ l:List Int,(∀ k∈l,(Ja t.nodes k).length≤300000)→sumL (Ja t.nodes) l≤l.length*300004:=by
  intro l
  induction l with
  |nil=>intro _; simp[sumL]
  |cons k l ih=>
   intro hl
   have h1:=hl k (by simp)
   have h2:=ih fun j hj=>hl j (by simp[hj])
   simp only[sumL,List.map_cons,List.sum_cons,Ga,Nat.add_mul]at h2 ⊢
   omega
 have h1:=this x.kids h.len
 have h2:x.kids.length*300004≤30*300004:=Nat.mul_le_mul_right _ h.few
 exact Nat.le_trans h1 h2
theorem RO.texts {t:Tr}{x:Nd}(h:RO t x) (l:List Int) (hl:∀ k∈l,k∈x.kids) (hs:sumL (Ja t.nodes) l≤sumL (Ja t.nodes) x.kids) (hn:l.length≤30) (a b:UInt8):Fn Tryz.prog 54 [t.cv,.rslc 1 (iz l) none,S [a,b]] (S (Lib.join (l.map (Ja t.nodes)) [a,b]))∧(Lib.join (l.map (Ja t.nodes)) [a,b]).length≤10000000:=by
 have h1:=h.sum
 have h2:=Jai (T:=Ja t.nodes) l a b
 exact ⟨refTexts t l a b (fun k hk=>h.txt k (hl k hk)) (by omega) (by omega),by omega⟩
theorem rnk_pos (k:Nat):¬ rnk k < 0:=by
 by_cases h:k < 4∨20 < k
 ·rw[rank_no k h]; decide
 ·rcases (show k=4∨k=5∨k=6∨k=7∨k=8∨k=9∨k=10∨k=11∨k=12∨k=13∨k=14∨k=15∨k=16∨k=17∨k=18∨k=19∨k=20 by omega) with rfl | rfl | rfl | rfl | rfl | rfl | rfl | rfl | rfl | rfl | rfl | rfl | rfl | rfl | rfl | rfl | rfl <;> decide
theorem opx0 {kd:Int→Nat}{T:Int→List UInt8}{k:Int}:opx kd T k (rgt 4)=T k:=by
 unfold opx
 rw[if_neg]
 exact rnk_pos _
theorem refText1 (t:Tr) (i:Nat) (hi:i < t.nodes.length) (x:Nd) (hx:t.nodes.getD i default=x) (h:RO t x) (hk:x.k=1):Fn Tryz.prog 16 [t.cv,.int .i64 (i:Int)] (S (Jf (Jb t.nodes) (Ja t.nodes) x)):=by
 have hg:=Jz hi
 rw[hx]at hg
 clear hx
 have hf:=h.few
 have hnr:=h.n
 have htx:=h.text
 have hb:=h.shp.num hk
 obtain ⟨k,text,n,kids,pl⟩:=x
 dsimp only at *
 subst hk
 obtain ⟨N,rfl⟩:∃ N:Nat,n=(N:Int):=⟨n.toNat,by omega⟩
 have e:Jf (Jb t.nodes) (Ja t.nodes) ⟨1,text,(N:Int),kids,pl⟩=Lib.itoa (N:Int):=rfl
 rw[e]
 clear e
 have m0:=Xc N (by omega)
 refine Jg c16_ok rfl rfl (by simp only[Ga,Gb]; decide) fun N0=>?_
 repeat first | refine ⟨by first | omega | decide | exact Jh (by omega) (by omega),?_⟩ | refine Jr (.inl rfl) (by assumption) ?_ | refine vr_f (by assumption) ?_ | refine Jm Jn (by decide) ?_ | simp -implicitDefEqProofs only[c16,go_sem,Tr.cv,Tr.row,Je,Nd.cv,Gc,hg]
 all_goals first | omega | rfl | exact ⟨by omega,rfl⟩ | exact Jh (by omega) (by omega) | decide | exact ⟨by decide,by decide⟩
theorem refText2a (t:Tr) (i:Nat) (hi:i < t.nodes.length) (x:Nd) (hx:t.nodes.getD i default=x) (h:RO t x) (hk:x.k=2) (hd:x.n=1):Fn Tryz.prog 16 [t.cv,.int .i64 (i:Int)] (S (Jf (Jb t.nodes) (Ja t.nodes) x)):=by
 have hg:=Jz hi
 rw[hx]at hg
 clear hx
 have hf:=h.few
 have hnr:=h.n
 have htx:=h.text
 have hb:=h.shp.boo hk
 obtain ⟨k,text,n,kids,pl⟩:=x
 dsimp only at *
 subst hk
 have e:Jf (Jb t.nodes) (Ja t.nodes) ⟨2,text,n,kids,pl⟩=(if n=1 then [116,114,117,101] else [102,97,108,115,101]):=rfl
 rw[e]
 clear e
 rw[if_pos hd]
 subst hd
 refine Jg c16_ok rfl rfl (by simp only[Ga,Gb]; decide) fun N0=>?_
 repeat first | refine ⟨by first | omega | decide | exact Jh (by omega) (by omega),?_⟩ | refine Jr (.inl rfl) (by assumption) ?_ | refine vr_f (by assumption) ?_ | refine Jm Jn (by decide) ?_ | simp -implicitDefEqProofs only[c16,go_sem,Tr.cv,Tr.row,Je,Nd.cv,Gc,Gn,Gm,hg]
 all_goals first | omega | rfl | exact ⟨by omega,rfl⟩ | exact Jh (by omega) (by omega) | decide | exact ⟨by decide,by decide⟩
theorem refText2b (t:Tr) (i:Nat) (hi:i < t.nodes.length) (x:Nd) (hx:t.nodes.getD i default=x) (h:RO t x) (hk:x.k=2) (hd:x.n=0):Fn Tryz.prog 16 [t.cv,.int .i64 (i:Int)] (S (Jf (Jb t.nodes) (Ja t.nodes) x)):=by
 have hg:=Jz hi
 rw[hx]at hg
 clear hx
 have hf:=h.few
 have hnr:=h.n
 have htx:=h.text
 obtain ⟨k,text,n,kids,pl⟩:=x
 dsimp only at *
 subst hk
 have e:Jf (Jb t.nodes) (Ja t.nodes) ⟨2,text,n,kids,pl⟩=(if n=1 then [116,114,117,101] else [102,97,108,115,101]):=rfl
 rw[e]
 clear e
 rw[if_neg (by omega)]
 subst hd
 refine Jg c16_ok rfl rfl (by simp only[Ga,Gb]; decide) fun N0=>?_
 repeat first | refine ⟨by first | omega | decide | exact Jh (by omega) (by omega),?_⟩ | refine Jr (.inl rfl) (by assumption) ?_ | refine vr_f (by assumption) ?_ | refine Jm Jn (by decide) ?_ | simp -implicitDefEqProofs only[c16,go_sem,Tr.cv,Tr.row,Je,Nd.cv,Gc,Gn,Gm,hg]
 all_goals first | omega | rfl | exact ⟨by omega,rfl⟩ | exact Jh (by omega) (by omega) | decide | exact ⟨by decide,by decide⟩
theorem refText3 (t:Tr) (i:Nat) (hi:i < t.nodes.length) (x:Nd) (hx:t.nodes.getD i default=x) (h:RO t x) (hk:x.k=3):Fn Tryz.prog 16 [t.cv,.int .i64 (i:Int)] (S (Jf (Jb t.nodes) (Ja t.nodes) x)):=by
 have hg:=Jz hi
 rw[hx]at hg
 clear hx
 have hf:=h.few
 have hnr:=h.n
 have htx:=h.text
 obtain ⟨k,text,n,kids,pl⟩:=x
 dsimp only at *
 subst hk
 have e:Jf (Jb t.nodes) (Ja t.nodes) ⟨3,text,n,kids,pl⟩=text:=rfl
 rw[e]
 clear e
 refine Jg c16_ok rfl rfl (by simp only[Ga,Gb]; decide) fun N0=>?_
 repeat first | refine ⟨by first | omega | decide | exact Jh (by omega) (by omega),?_⟩ | refine Jr (.inl rfl) (by assumption) ?_ | refine vr_f (by assumption) ?_ | refine Jm Jn (by decide) ?_ | simp -implicitDefEqProofs only[c16,go_sem,Tr.cv,Tr.row,Je,Nd.cv,Gc,hg]
 all_goals first | omega | rfl | exact ⟨by omega,rfl⟩ | exact Jh (by omega) (by omega) | decide | exact ⟨by decide,by decide⟩
theorem refText4 (t:Tr) (i:Nat) (hi:i < t.nodes.length) (x:Nd) (hx:t.nodes.getD i default=x) (h:RO t x) (hk:x.k=4):Fn Tryz.prog 16 [t.cv,.int .i64 (i:Int)] (S (Jf (Jb t.nodes) (Ja t.nodes) x)):=by
 have hg:=Jz hi
 rw[hx]at hg
 clear hx
 have hf:=h.few
 have hnr:=h.n
 have htx:=h.text
 have h2:x.kids.length=2:=h.shp.two (by omega)
 obtain ⟨k,text,n,kids,pl⟩:=x
 dsimp only at *
 subst hk
 obtain ⟨a,b,rfl⟩:∃ a b,kids=[a,b]:=by
  match kids,h2 with
  |[a,b],_=>exact ⟨_,_,rfl⟩
 have e:Jf (Jb t.nodes) (Ja t.nodes) ⟨4,text,n,[a,b],pl⟩=opx (Jb t.nodes) (Ja t.nodes) a (lft 4)++[32]++sgn 4++[32]++opx (Jb t.nodes) (Ja t.nodes) b (rgt 4):=rfl
 rw[e]
 clear e
 have oa:=h.op (k:=a) (by simp) 1
 have la:=oa.2
 have sb:=h.txt b (by simp)
 have lb:=h.len b (by simp)
 rw[opx0]
 have hl4:lft 4=1:=rfl
 rw[hl4]
 have hs4:sgn 4=[58,58]:=rfl
 rw[hs4]
 unfold J3 at *
 generalize opx (Jb t.nodes) (Ja t.nodes) a 1=ua at *
 generalize Ja t.nodes b=ub at *
 have m0:=oa.1
 refine Jg c16_ok rfl rfl (by simp only[Ga,Gb]; decide) fun N0=>?_
 repeat first | refine ⟨by first | omega | decide | exact Jh (by omega) (by omega),?_⟩ | refine Jr (.inl rfl) (by assumption) ?_ | refine vr_f (by assumption) ?_ | refine Jm Jn (by decide) ?_ | simp -implicitDefEqProofs only[c16,go_sem,Tr.cv,Tr.row,Je,Nd.cv,Gc,iz2,hg]
 all_goals first | omega | rfl | exact ⟨by omega,rfl⟩ | exact Jh (by omega) (by omega) | decide | exact ⟨by decide,by decide⟩
theorem refText5 (t:Tr) (i:Nat) (hi:i < t.nodes.length) (x:Nd) (hx:t.nodes.getD i default=x) (h:RO t x) (hk:x.k=5):Fn Tryz.prog 16 [t.cv,.int .i64 (i:Int)] (S (Jf (Jb t.nodes) (Ja t.nodes) x)):=by
 have hg:=Jz hi
 rw[hx]at hg
 clear hx
 have hf:=h.few
 have hnr:=h.n
 have htx:=h.text
 have h2:x.kids.length=2:=h.shp.two (by omega)
 obtain ⟨k,text,n,kids,pl⟩:=x
 dsimp only at *
 subst hk
 obtain ⟨a,b,rfl⟩:∃ a b,kids=[a,b]:=by
  match kids,h2 with
  |[a,b],_=>exact ⟨_,_,rfl⟩
 have e:Jf (Jb t.nodes) (Ja t.nodes) ⟨5,text,n,[a,b],pl⟩=opx (Jb t.nodes) (Ja t.nodes) a (lft 5)++[32]++sgn 5++[32]++opx (Jb t.nodes) (Ja t.nodes) b (rgt 5):=rfl
 rw[e]
 clear e
 have oa:=h.op (k:=a) (by simp) (lft 5)
 have la:=oa.2
 have ob:=h.op (k:=b) (by simp) (rgt 5)
 have lb:=ob.2
 have hsl:=KR 5
 have v1:inN 1 29 5=true:=rfl
 have v2:rnk 5=(1:Int):=rfl
 have v3:lft 5=(1:Int):=rfl
 have v4:rgt 5=(2:Int):=rfl
 rw[v3]at oa la ⊢
 rw[v4]at ob lb ⊢
 generalize opx (Jb t.nodes) (Ja t.nodes) a 1=ua at *
 generalize opx (Jb t.nodes) (Ja t.nodes) b 2=ub at *
 have m0:=J9 5
 have m1:=K7 5
 have m2:=oa.1
 have m3:=Xb 5 (by decide)
 have m4:=ob.1
 refine Jg c16_ok rfl rfl (by simp only[Ga,Gb]; decide) fun N0=>?_
 repeat first | refine ⟨by first | omega | decide | exact Jh (by omega) (by omega),?_⟩ | refine Jr (.inl rfl) (by assumption) ?_ | refine vr_f (by assumption) ?_ | refine Jm Jn (by decide) ?_ | simp -implicitDefEqProofs only[c16,go_sem,Tr.cv,Tr.row,Je,Nd.cv,Gc,iz2,v1,v2,hg]
 all_goals first | omega | rfl | exact ⟨by omega,rfl⟩ | exact Jh (by omega) (by omega) | decide | exact ⟨by decide,by decide⟩
theorem refText6 (t:Tr) (i:Nat) (hi:i < t.nodes.length) (x:Nd) (hx:t.nodes.getD i default=x) (h:RO t x) (hk:x.k=6):Fn Tryz.prog 16 [t.cv,.int .i64 (i:Int)] (S (Jf (Jb t.nodes) (Ja t.nodes) x)):=by
 have hg:=Jz hi
 rw[hx]at hg
 clear hx
 have hf:=h.few
 have hnr:=h.n
 have htx:=h.text
 have h2:x.kids.length=2:=h.shp.two (by omega)
 obtain ⟨k,text,n,kids,pl⟩:=x
 dsimp only at *
 subst hk
 obtain ⟨a,b,rfl⟩:∃ a b,kids=[a,b]:=by
  match kids,h2 with
  |[a,b],_=>exact ⟨_,_,rfl⟩
 have e:Jf (Jb t.nodes) (Ja t.nodes) ⟨6,text,n,[a,b],pl⟩=opx (Jb t.nodes) (Ja t.nodes) a (lft 6)++[32]++sgn 6++[32]++opx (Jb t.nodes) (Ja t.nodes) b (rgt 6):=rfl
 rw[e]
 clear e
 have oa:=h.op (k:=a) (by simp) (lft 6)
 have la:=oa.2
 have ob:=h.op (k:=b) (by simp) (rgt 6)
 have lb:=ob.2
 have hsl:=KR 6
 have v1:inN 1 29 6=true:=rfl
 have v2:rnk 6=(2:Int):=rfl
 have v3:lft 6=(2:Int):=rfl
 have v4:rgt 6=(3:Int):=rfl
 rw[v3]at oa la ⊢
 rw[v4]at ob lb ⊢
 generalize opx (Jb t.nodes) (Ja t.nodes) a 2=ua at *
 generalize opx (Jb t.nodes) (Ja t.nodes) b 3=ub at *
 have m0:=J9 6
 have m1:=K7 6
 have m2:=oa.1
 have m3:=Xb 6 (by decide)
 have m4:=ob.1
 refine Jg c16_ok rfl rfl (by simp only[Ga,Gb]; decide) fun N0=>?_
 repeat first | refine ⟨by first | omega | decide | exact Jh (by omega) (by omega),?_⟩ | refine Jr (.inl rfl) (by assumption) ?_ | refine vr_f (by assumption) ?_ | refine Jm Jn (by decide) ?_ | simp -implicitDefEqProofs only[c16,go_sem,Tr.cv,Tr.row,Je,Nd.cv,Gc,iz2,v1,v2,hg]
 all_goals first | omega | rfl | exact ⟨by omega,rfl⟩ | exact Jh (by omega) (by omega) | decide | exact ⟨by decide,by decide⟩
theorem refText7 (t:Tr) (i:Nat) (hi:i < t.nodes.length) (x:Nd) (hx:t.nodes.getD i default=x) (h:RO t x) (hk:x.k=7):Fn Tryz.prog 16 [t.cv,.int .i64 (i:Int)] (S (Jf (Jb t.nodes) (Ja t.nodes) x)):=by
 have hg:=Jz hi
 rw[hx]at hg
 clear hx
 have hf:=h.few
 have hnr:=h.n
 have htx:=h.text
 have h2:x.kids.length=2:=h.shp.two (by omega)
 obtain ⟨k,text,n,kids,pl⟩:=x
 dsimp only at *
 subst hk
 obtain ⟨a,b,rfl⟩:∃ a b,kids=[a,b]:=by
  match kids,h2 with
  |[a,b],_=>exact ⟨_,_,rfl⟩
 have e:Jf (Jb t.nodes) (Ja t.nodes) ⟨7,text,n,[a,b],pl⟩=opx (Jb t.nodes) (Ja t.nodes) a (lft 7)++[32]++sgn 7++[32]++opx (Jb t.nodes) (Ja t.nodes) b (rgt 7):=rfl
 rw[e]
 clear e
 have oa:=h.op (k:=a) (by simp) (lft 7)
 have la:=oa.2
 have ob:=h.op (k:=b) (by simp) (rgt 7)
 have lb:=ob.2
 have hsl:=KR 7
 have v1:inN 1 29 7=true:=rfl
 have v2:rnk 7=(4:Int):=rfl
 have v3:lft 7=(5:Int):=rfl
 have v4:rgt 7=(5:Int):=rfl
 rw[v3]at oa la ⊢
 rw[v4]at ob lb ⊢
 generalize opx (Jb t.nodes) (Ja t.nodes) a 5=ua at *
 generalize opx (Jb t.nodes) (Ja t.nodes) b 5=ub at *
 have m0:=J9 7
 have m1:=K7 7
 have m2:=oa.1
 have m3:=Xb 7 (by decide)
 have m4:=ob.1
 refine Jg c16_ok rfl rfl (by simp only[Ga,Gb]; decide) fun N0=>?_
 repeat first | refine ⟨by first | omega | decide | exact Jh (by omega) (by omega),?_⟩ | refine Jr (.inl rfl) (by assumption) ?_ | refine vr_f (by assumption) ?_ | refine Jm Jn (by decide) ?_ | simp -implicitDefEqProofs only[c16,go_sem,Tr.cv,Tr.row,Je,Nd.cv,Gc,iz2,v1,v2,hg]
 all_goals first | omega | rfl | exact ⟨by omega,rfl⟩ | exact Jh (by omega) (by omega) | decide | exact ⟨by decide,by decide⟩
theorem refText8 (t:Tr) (i:Nat) (hi:i < t.nodes.length) (x:Nd) (hx:t.nodes.getD i default=x) (h:RO t x) (hk:x.k=8):Fn Tryz.prog 16 [t.cv,.int .i64 (i:Int)] (S (Jf (Jb t.nodes) (Ja t.nodes) x)):=by
 have hg:=Jz hi
 rw[hx]at hg
 clear hx
 have hf:=h.few
 have hnr:=h.n
 have htx:=h.text
 have h2:x.kids.length=2:=h.shp.two (by omega)
 obtain ⟨k,text,n,kids,pl⟩:=x
 dsimp only at *
 subst hk
 obtain ⟨a,b,rfl⟩:∃ a b,kids=[a,b]:=by
  match kids,h2 with
  |[a,b],_=>exact ⟨_,_,rfl⟩
 have e:Jf (Jb t.nodes) (Ja t.nodes) ⟨8,text,n,[a,b],pl⟩=opx (Jb t.nodes) (Ja t.nodes) a (lft 8)++[32]++sgn 8++[32]++opx (Jb t.nodes) (Ja t.nodes) b (rgt 8):=rfl
 rw[e]
 clear e
 have oa:=h.op (k:=a) (by simp) (lft 8)
 have la:=oa.2
 have ob:=h.op (k:=b) (by simp) (rgt 8)
 have lb:=ob.2
 have hsl:=KR 8
 have v1:inN 1 29 8=true:=rfl
 have v2:rnk 8=(4:Int):=rfl
 have v3:lft 8=(5:Int):=rfl
 have v4:rgt 8=(5:Int):=rfl
 rw[v3]at oa la ⊢
 rw[v4]at ob lb ⊢
 generalize opx (Jb t.nodes) (Ja t.nodes) a 5=ua at *
 generalize opx (Jb t.nodes) (Ja t.nodes) b 5=ub at *
 have m0:=J9 8
 have m1:=K7 8
 have m2:=oa.1
 have m3:=Xb 8 (by decide)
 have m4:=ob.1
 refine Jg c16_ok rfl rfl (by simp only[Ga,Gb]; decide) fun N0=>?_
 repeat first | refine ⟨by first | omega | decide | exact Jh (by omega) (by omega),?_⟩ | refine Jr (.inl rfl) (by assumption) ?_ | refine vr_f (by assumption) ?_ | refine Jm Jn (by decide) ?_ | simp -implicitDefEqProofs only[c16,go_sem,Tr.cv,Tr.row,Je,Nd.cv,Gc,iz2,v1,v2,hg]
 all_goals first | omega | rfl | exact ⟨by omega,rfl⟩ | exact Jh (by omega) (by omega) | decide | exact ⟨by decide,by decide⟩
theorem refText9 (t:Tr) (i:Nat) (hi:i < t.nodes.length) (x:Nd) (hx:t.nodes.getD i default=x) (h:RO t x) (hk:x.k=9):Fn Tryz.prog 16 [t.cv,.int .i64 (i:Int)] (S (Jf (Jb t.nodes) (Ja t.nodes) x)):=by
 have hg:=Jz hi
 rw[hx]at hg
 clear hx
 have hf:=h.few
 have hnr:=h.n
 have htx:=h.text
 have h2:x.kids.length=2:=h.shp.two (by omega)
 obtain ⟨k,text,n,kids,pl⟩:=x
 dsimp only at *
 subst hk
 obtain ⟨a,b,rfl⟩:∃ a b,kids=[a,b]:=by
  match kids,h2 with
  |[a,b],_=>exact ⟨_,_,rfl⟩
 have e:Jf (Jb t.nodes) (Ja t.nodes) ⟨9,text,n,[a,b],pl⟩=opx (Jb t.nodes) (Ja t.nodes) a (lft 9)++[32]++sgn 9++[32]++opx (Jb t.nodes) (Ja t.nodes) b (rgt 9):=rfl
 rw[e]
 clear e
 have oa:=h.op (k:=a) (by simp) (lft 9)
 have la:=oa.2
 have ob:=h.op (k:=b) (by simp) (rgt 9)
 have lb:=ob.2
 have hsl:=KR 9
 have v1:inN 1 29 9=true:=rfl
 have v2:rnk 9=(4:Int):=rfl
 have v3:lft 9=(5:Int):=rfl
 have v4:rgt 9=(5:Int):=rfl
 rw[v3]at oa la ⊢
 rw[v4]at ob lb ⊢
 generalize opx (Jb t.nodes) (Ja t.nodes) a 5=ua at *
 generalize opx (Jb t.nodes) (Ja t.nodes) b 5=ub at *
 have m0:=J9 9
 have m1:=K7 9
 have m2:=oa.1
 have m3:=Xb 9 (by decide)
 have m4:=ob.1
 refine Jg c16_ok rfl rfl (by simp only[Ga,Gb]; decide) fun N0=>?_
 repeat first | refine ⟨by first | omega | decide | exact Jh (by omega) (by omega),?_⟩ | refine Jr (.inl rfl) (by assumption) ?_ | refine vr_f (by assumption) ?_ | refine Jm Jn (by decide) ?_ | simp -implicitDefEqProofs only[c16,go_sem,Tr.cv,Tr.row,Je,Nd.cv,Gc,iz2,v1,v2,hg]
 all_goals first | omega | rfl | exact ⟨by omega,rfl⟩ | exact Jh (by omega) (by omega) | decide | exact ⟨by decide,by decide⟩
theorem refText10 (t:Tr) (i:Nat) (hi:i < t.nodes.length) (x:Nd) (hx:t.nodes.getD i default=x) (h:RO t x) (hk:x.k=10):Fn Tryz.prog 16 [t.cv,.int .i64 (i:Int)] (S (Jf (Jb t.nodes) (Ja t.nodes) x)):=by
 have hg:=Jz hi
 rw[hx]at hg
 clear hx
 have hf:=h.few
 have hnr:=h.n
 have htx:=h.text
 have h2:x.kids.length=2:=h.shp.two (by omega)
 obtain ⟨k,text,n,kids,pl⟩:=x
 dsimp only at *
 subst hk
 obtain ⟨a,b,rfl⟩:∃ a b,kids=[a,b]:=by
  match kids,h2 with
  |[a,b],_=>exact ⟨_,_,rfl⟩
 have e:Jf (Jb t.nodes) (Ja t.nodes) ⟨10,text,n,[a,b],pl⟩=opx (Jb t.nodes) (Ja t.nodes) a (lft 10)++[32]++sgn 10++[32]++opx (Jb t.nodes) (Ja t.nodes) b (rgt 10):=rfl
 rw[e]
 clear e
 have oa:=h.op (k:=a) (by simp) (lft 10)
 have la:=oa.2
 have ob:=h.op (k:=b) (by simp) (rgt 10)
 have lb:=ob.2
 have hsl:=KR 10
 have v1:inN 1 29 10=true:=rfl
 have v2:rnk 10=(4:Int):=rfl
 have v3:lft 10=(5:Int):=rfl
 have v4:rgt 10=(5:Int):=rfl
 rw[v3]at oa la ⊢
 rw[v4]at ob lb ⊢
 generalize opx (Jb t.nodes) (Ja t.nodes) a 5=ua at *
 generalize opx (Jb t.nodes) (Ja t.nodes) b 5=ub at *
 have m0:=J9 10
 have m1:=K7 10
 have m2:=oa.1
 have m3:=Xb 10 (by decide)
 have m4:=ob.1
 refine Jg c16_ok rfl rfl (by simp only[Ga,Gb]; decide) fun N0=>?_
 repeat first | refine ⟨by first | omega | decide | exact Jh (by omega) (by omega),?_⟩ | refine Jr (.inl rfl) (by assumption) ?_ | refine vr_f (by assumption) ?_ | refine Jm Jn (by decide) ?_ | simp -implicitDefEqProofs only[c16,go_sem,Tr.cv,Tr.row,Je,Nd.cv,Gc,iz2,v1,v2,hg]
 all_goals first | omega | rfl | exact ⟨by omega,rfl⟩ | exact Jh (by omega) (by omega) | decide | exact ⟨by decide,by decide⟩
theorem refText11 (t:Tr) (i:Nat) (hi:i < t.nodes.length) (x:Nd) (hx:t.nodes.getD i default=x) (h:RO t x) (hk:x.k=11):Fn Tryz.prog 16 [t.cv,.int .i64 (i:Int)] (S (Jf (Jb t.nodes) (Ja t.nodes) x)):=by
 have hg:=Jz hi
 rw[hx]at hg
 clear hx
 have hf:=h.few
 have hnr:=h.n
 have htx:=h.text
 have h2:x.kids.length=2:=h.shp.two (by omega)
 obtain ⟨k,text,n,kids,pl⟩:=x
 dsimp only at *
 subst hk
 obtain ⟨a,b,rfl⟩:∃ a b,kids=[a,b]:=by
  match kids,h2 with
  |[a,b],_=>exact ⟨_,_,rfl⟩
 have e:Jf (Jb t.nodes) (Ja t.nodes) ⟨11,text,n,[a,b],pl⟩=opx (Jb t.nodes) (Ja t.nodes) a (lft 11)++[32]++sgn 11++[32]++opx (Jb t.nodes) (Ja t.nodes) b (rgt 11):=rfl
 rw[e]
 clear e
 have oa:=h.op (k:=a) (by simp) (lft 11)
 have la:=oa.2
 have ob:=h.op (k:=b) (by simp) (rgt 11)
 have lb:=ob.2
 have hsl:=KR 11
 have v1:inN 1 29 11=true:=rfl
 have v2:rnk 11=(4:Int):=rfl
 have v3:lft 11=(5:Int):=rfl
 have v4:rgt 11=(5:Int):=rfl
 rw[v3]at oa la ⊢
 rw[v4]at ob lb ⊢
 generalize opx (Jb t.nodes) (Ja t.nodes) a 5=ua at *
 generalize opx (Jb t.nodes) (Ja t.nodes) b 5=ub at *
 have m0:=J9 11
 have m1:=K7 11
 have m2:=oa.1
 have m3:=Xb 11 (by decide)
 have m4:=ob.1
 refine Jg c16_ok rfl rfl (by simp only[Ga,Gb]; decide) fun N0=>?_
 repeat first | refine ⟨by first | omega | decide | exact Jh (by omega) (by omega),?_⟩ | refine Jr (.inl rfl) (by assumption) ?_ | refine vr_f (by assumption) ?_ | refine Jm Jn (by decide) ?_ | simp -implicitDefEqProofs only[c16,go_sem,Tr.cv,Tr.row,Je,Nd.cv,Gc,iz2,v1,v2,hg]
 all_goals first | omega | rfl | exact ⟨by omega,rfl⟩ | exact Jh (by omega) (by omega) | decide | exact ⟨by decide,by decide⟩
theorem refText12 (t:Tr) (i:Nat) (hi:i < t.nodes.length) (x:Nd) (hx:t.nodes.getD i default=x) (h:RO t x) (hk:x.k=12):Fn Tryz.prog 16 [t.cv,.int .i64 (i:Int)] (S (Jf (Jb t.nodes) (Ja t.nodes) x)):=by
 have hg:=Jz hi
 rw[hx]at hg
 clear hx
 have hf:=h.few
 have hnr:=h.n
 have htx:=h.text
 have h2:x.kids.length=2:=h.shp.two (by omega)
 obtain ⟨k,text,n,kids,pl⟩:=x
 dsimp only at *
 subst hk
 obtain ⟨a,b,rfl⟩:∃ a b,kids=[a,b]:=by
  match kids,h2 with
  |[a,b],_=>exact ⟨_,_,rfl⟩
 have e:Jf (Jb t.nodes) (Ja t.nodes) ⟨12,text,n,[a,b],pl⟩=opx (Jb t.nodes) (Ja t.nodes) a (lft 12)++[32]++sgn 12++[32]++opx (Jb t.nodes) (Ja t.nodes) b (rgt 12):=rfl
 rw[e]
 clear e
 have oa:=h.op (k:=a) (by simp) (lft 12)
 have la:=oa.2
 have ob:=h.op (k:=b) (by simp) (rgt 12)
 have lb:=ob.2
 have hsl:=KR 12
 have v1:inN 1 29 12=true:=rfl
 have v2:rnk 12=(4:Int):=rfl
 have v3:lft 12=(5:Int):=rfl
 have v4:rgt 12=(5:Int):=rfl
 rw[v3]at oa la ⊢
 rw[v4]at ob lb ⊢
 generalize opx (Jb t.nodes) (Ja t.nodes) a 5=ua at *
 generalize opx (Jb t.nodes) (Ja t.nodes) b 5=ub at *
 have m0:=J9 12
 have m1:=K7 12
 have m2:=oa.1
 have m3:=Xb 12 (by decide)
 have m4:=ob.1
 refine Jg c16_ok rfl rfl (by simp only[Ga,Gb]; decide) fun N0=>?_
 repeat first | refine ⟨by first | omega | decide | exact Jh (by omega) (by omega),?_⟩ | refine Jr (.inl rfl) (by assumption) ?_ | refine vr_f (by assumption) ?_ | refine Jm Jn (by decide) ?_ | simp -implicitDefEqProofs only[c16,go_sem,Tr.cv,Tr.row,Je,Nd.cv,Gc,iz2,v1,v2,hg]
 all_goals first | omega | rfl | exact ⟨by omega,rfl⟩ | exact Jh (by omega) (by omega) | decide | exact ⟨by decide,by decide⟩
theorem refText13 (t:Tr) (i:Nat) (hi:i < t.nodes.length) (x:Nd) (hx:t.nodes.getD i default=x) (h:RO t x) (hk:x.k=13):Fn Tryz.prog 16 [t.cv,.int .i64 (i:Int)] (S (Jf (Jb t.nodes) (Ja t.nodes) x)):=by
 have hg:=Jz hi
 rw[hx]at hg
 clear hx
 have hf:=h.few
 have hnr:=h.n
 have htx:=h.text
 have h2:x.kids.length=2:=h.shp.two (by omega)
 obtain ⟨k,text,n,kids,pl⟩:=x
 dsimp only at *
 subst hk
 obtain ⟨a,b,rfl⟩:∃ a b,kids=[a,b]:=by
  match kids,h2 with
  |[a,b],_=>exact ⟨_,_,rfl⟩
 have e:Jf (Jb t.nodes) (Ja t.nodes) ⟨13,text,n,[a,b],pl⟩=opx (Jb t.nodes) (Ja t.nodes) a (lft 13)++[32]++sgn 13++[32]++opx (Jb t.nodes) (Ja t.nodes) b (rgt 13):=rfl
 rw[e]
 clear e
 have oa:=h.op (k:=a) (by simp) (lft 13)
 have la:=oa.2
 have ob:=h.op (k:=b) (by simp) (rgt 13)
 have lb:=ob.2
 have hsl:=KR 13
 have v1:inN 1 29 13=true:=rfl
 have v2:rnk 13=(5:Int):=rfl
 have v3:lft 13=(5:Int):=rfl
 have v4:rgt 13=(6:Int):=rfl
 rw[v3]at oa la ⊢
 rw[v4]at ob lb ⊢
 generalize opx (Jb t.nodes) (Ja t.nodes) a 5=ua at *
 generalize opx (Jb t.nodes) (Ja t.nodes) b 6=ub at *
 have m0:=J9 13
 have m1:=K7 13
 have m2:=oa.1
 have m3:=Xb 13 (by decide)
 have m4:=ob.1
 refine Jg c16_ok rfl rfl (by simp only[Ga,Gb]; decide) fun N0=>?_
 repeat first | refine ⟨by first | omega | decide | exact Jh (by omega) (by omega),?_⟩ | refine Jr (.inl rfl) (by assumption) ?_ | refine vr_f (by assumption) ?_ | refine Jm Jn (by decide) ?_ | simp -implicitDefEqProofs only[c16,go_sem,Tr.cv,Tr.row,Je,Nd.cv,Gc,iz2,v1,v2,hg]
 all_goals first | omega | rfl | exact ⟨by omega,rfl⟩ | exact Jh (by omega) (by omega) | decide | exact ⟨by decide,by decide⟩
theorem refText14 (t:Tr) (i:Nat) (hi:i < t.nodes.length) (x:Nd) (hx:t.nodes.getD i default=x) (h:RO t x) (hk:x.k=14):Fn Tryz.prog 16 [t.cv,.int .i64 (i:Int)] (S (Jf (Jb t.nodes) (Ja t.nodes) x)):=by
 have hg:=Jz hi
 rw[hx]at hg
 clear hx
 have hf:=h.few
 have hnr:=h.n
 have htx:=h.text
 have h2:x.kids.length=2:=h.shp.two (by omega)
 obtain ⟨k,text,n,kids,pl⟩:=x
 dsimp only at *
 subst hk
 obtain ⟨a,b,rfl⟩:∃ a b,kids=[a,b]:=by
  match kids,h2 with
  |[a,b],_=>exact ⟨_,_,rfl⟩
 have e:Jf (Jb t.nodes) (Ja t.nodes) ⟨14,text,n,[a,b],pl⟩=opx (Jb t.nodes) (Ja t.nodes) a (lft 14)++[32]++sgn 14++[32]++opx (Jb t.nodes) (Ja t.nodes) b (rgt 14):=rfl
 rw[e]
 clear e
 have oa:=h.op (k:=a) (by simp) (lft 14)
 have la:=oa.2
 have ob:=h.op (k:=b) (by simp) (rgt 14)
 have lb:=ob.2
 have hsl:=KR 14
 have v1:inN 1 29 14=true:=rfl
 have v2:rnk 14=(5:Int):=rfl
 have v3:lft 14=(5:Int):=rfl
 have v4:rgt 14=(6:Int):=rfl
 rw[v3]at oa la ⊢
 rw[v4]at ob lb ⊢
 generalize opx (Jb t.nodes) (Ja t.nodes) a 5=ua at *
 generalize opx (Jb t.nodes) (Ja t.nodes) b 6=ub at *
 have m0:=J9 14
 have m1:=K7 14
 have m2:=oa.1
 have m3:=Xb 14 (by decide)
 have m4:=ob.1
 refine Jg c16_ok rfl rfl (by simp only[Ga,Gb]; decide) fun N0=>?_
 repeat first | refine ⟨by first | omega | decide | exact Jh (by omega) (by omega),?_⟩ | refine Jr (.inl rfl) (by assumption) ?_ | refine vr_f (by assumption) ?_ | refine Jm Jn (by decide) ?_ | simp -implicitDefEqProofs only[c16,go_sem,Tr.cv,Tr.row,Je,Nd.cv,Gc,iz2,v1,v2,hg]
 all_goals first | omega | rfl | exact ⟨by omega,rfl⟩ | exact Jh (by omega) (by omega) | decide | exact ⟨by decide,by decide⟩
theorem refText15 (t:Tr) (i:Nat) (hi:i < t.nodes.length) (x:Nd) (hx:t.nodes.getD i default=x) (h:RO t x) (hk:x.k=15):Fn Tryz.prog 16 [t.cv,.int .i64 (i:Int)] (S (Jf (Jb t.nodes) (Ja t.nodes) x)):=by
 have hg:=Jz hi
 rw[hx]at hg
 clear hx
 have hf:=h.few
 have hnr:=h.n
 have htx:=h.text
 have h2:x.kids.length=2:=h.shp.two (by omega)
 obtain ⟨k,text,n,kids,pl⟩:=x
 dsimp only at *
 subst hk
 obtain ⟨a,b,rfl⟩:∃ a b,kids=[a,b]:=by
  match kids,h2 with
  |[a,b],_=>exact ⟨_,_,rfl⟩
 have e:Jf (Jb t.nodes) (Ja t.nodes) ⟨15,text,n,[a,b],pl⟩=opx (Jb t.nodes) (Ja t.nodes) a (lft 15)++[32]++sgn 15++[32]++opx (Jb t.nodes) (Ja t.nodes) b (rgt 15):=rfl
 rw[e]
 clear e
 have oa:=h.op (k:=a) (by simp) (lft 15)
 have la:=oa.2
 have ob:=h.op (k:=b) (by simp) (rgt 15)
 have lb:=ob.2
 have hsl:=KR 15
 have v1:inN 1 29 15=true:=rfl
 have v2:rnk 15=(6:Int):=rfl
 have v3:lft 15=(6:Int):=rfl
 have v4:rgt 15=(7:Int):=rfl
 rw[v3]at oa la ⊢
 rw[v4]at ob lb ⊢
 generalize opx (Jb t.nodes) (Ja t.nodes) a 6=ua at *
 generalize opx (Jb t.nodes) (Ja t.nodes) b 7=ub at *
 have m0:=J9 15
 have m1:=K7 15
 have m2:=oa.1
 have m3:=Xb 15 (by decide)
 have m4:=ob.1
 refine Jg c16_ok rfl rfl (by simp only[Ga,Gb]; decide) fun N0=>?_
 repeat first | refine ⟨by first | omega | decide | exact Jh (by omega) (by omega),?_⟩ | refine Jr (.inl rfl) (by assumption) ?_ | refine vr_f (by assumption) ?_ | refine Jm Jn (by decide) ?_ | simp -implicitDefEqProofs only[c16,go_sem,Tr.cv,Tr.row,Je,Nd.cv,Gc,iz2,v1,v2,hg]
 all_goals first | omega | rfl | exact ⟨by omega,rfl⟩ | exact Jh (by omega) (by omega) | decide | exact ⟨by decide,by decide⟩
theorem refText16 (t:Tr) (i:Nat) (hi:i < t.nodes.length) (x:Nd) (hx:t.nodes.getD i default=x) (h:RO t x) (hk:x.k=16):Fn Tryz.prog 16 [t.cv,.int .i64 (i:Int)] (S (Jf (Jb t.nodes) (Ja t.nodes) x)):=by
 have hg:=Jz hi
 rw[hx]at hg
 clear hx
 have hf:=h.few
 have hnr:=h.n
 have htx:=h.text
 have h2:x.kids.length=2:=h.shp.two (by omega)
 obtain ⟨k,text,n,kids,pl⟩:=x
 dsimp only at *
 subst hk
 obtain ⟨a,b,rfl⟩:∃ a b,kids=[a,b]:=by
  match kids,h2 with
  |[a,b],_=>exact ⟨_,_,rfl⟩
 have e:Jf (Jb t.nodes) (Ja t.nodes) ⟨16,text,n,[a,b],pl⟩=opx (Jb t.nodes) (Ja t.nodes) a (lft 16)++[32]++sgn 16++[32]++opx (Jb t.nodes) (Ja t.nodes) b (rgt 16):=rfl
 rw[e]
 clear e
 have oa:=h.op (k:=a) (by simp) (lft 16)
 have la:=oa.2
 have ob:=h.op (k:=b) (by simp) (rgt 16)
 have lb:=ob.2
 have hsl:=KR 16
 have v1:inN 1 29 16=true:=rfl
 have v2:rnk 16=(6:Int):=rfl
 have v3:lft 16=(6:Int):=rfl
 have v4:rgt 16=(7:Int):=rfl
 rw[v3]at oa la ⊢
 rw[v4]at ob lb ⊢
 generalize opx (Jb t.nodes) (Ja t.nodes) a 6=ua at *
 generalize opx (Jb t.nodes) (Ja t.nodes) b 7=ub at *
 have m0:=J9 16
 have m1:=K7 16
 have m2:=oa.1
 have m3:=Xb 16 (by decide)
 have m4:=ob.1
 refine Jg c16_ok rfl rfl (by simp only[Ga,Gb]; decide) fun N0=>?_
 repeat first | refine ⟨by first | omega | decide | exact Jh (by omega) (by omega),?_⟩ | refine Jr (.inl rfl) (by assumption) ?_ | refine vr_f (by assumption) ?_ | refine Jm Jn (by decide) ?_ | simp -implicitDefEqProofs only[c16,go_sem,Tr.cv,Tr.row,Je,Nd.cv,Gc,iz2,v1,v2,hg]
 all_goals first | omega | rfl | exact ⟨by omega,rfl⟩ | exact Jh (by omega) (by omega) | decide | exact ⟨by decide,by decide⟩
theorem refText17 (t:Tr) (i:Nat) (hi:i < t.nodes.length) (x:Nd) (hx:t.nodes.getD i default=x) (h:RO t x) (hk:x.k=17):Fn Tryz.prog 16 [t.cv,.int .i64 (i:Int)] (S (Jf (Jb t.nodes) (Ja t.nodes) x)):=by
 have hg:=Jz hi
 rw[hx]at hg
 clear hx
 have hf:=h.few
 have hnr:=h.n
 have htx:=h.text
 have h2:x.kids.length=2:=h.shp.two (by omega)
 obtain ⟨k,text,n,kids,pl⟩:=x
 dsimp only at *
 subst hk
 obtain ⟨a,b,rfl⟩:∃ a b,kids=[a,b]:=by
  match kids,h2 with
  |[a,b],_=>exact ⟨_,_,rfl⟩
 have e:Jf (Jb t.nodes) (Ja t.nodes) ⟨17,text,n,[a,b],pl⟩=opx (Jb t.nodes) (Ja t.nodes) a (lft 17)++[32]++sgn 17++[32]++opx (Jb t.nodes) (Ja t.nodes) b (rgt 17):=rfl
 rw[e]
 clear e
 have oa:=h.op (k:=a) (by simp) (lft 17)
 have la:=oa.2
 have ob:=h.op (k:=b) (by simp) (rgt 17)
 have lb:=ob.2
 have hsl:=KR 17
 have v1:inN 1 29 17=true:=rfl
 have v2:rnk 17=(6:Int):=rfl
 have v3:lft 17=(6:Int):=rfl
 have v4:rgt 17=(7:Int):=rfl
 rw[v3]at oa la ⊢
 rw[v4]at ob lb ⊢
 generalize opx (Jb t.nodes) (Ja t.nodes) a 6=ua at *
 generalize opx (Jb t.nodes) (Ja t.nodes) b 7=ub at *
 have m0:=J9 17
 have m1:=K7 17
 have m2:=oa.1
 have m3:=Xb 17 (by decide)
 have m4:=ob.1
 refine Jg c16_ok rfl rfl (by simp only[Ga,Gb]; decide) fun N0=>?_
 repeat first | refine ⟨by first | omega | decide | exact Jh (by omega) (by omega),?_⟩ | refine Jr (.inl rfl) (by assumption) ?_ | refine vr_f (by assumption) ?_ | refine Jm Jn (by decide) ?_ | simp -implicitDefEqProofs only[c16,go_sem,Tr.cv,Tr.row,Je,Nd.cv,Gc,iz2,v1,v2,hg]
 all_goals first | omega | rfl | exact ⟨by omega,rfl⟩ | exact Jh (by omega) (by omega) | decide | exact ⟨by decide,by decide⟩
theorem refText18 (t:Tr) (i:Nat) (hi:i < t.nodes.length) (x:Nd) (hx:t.nodes.getD i default=x) (h:RO t x) (hk:x.k=18):Fn Tryz.prog 16 [t.cv,.int .i64 (i:Int)] (S (Jf (Jb t.nodes) (Ja t.nodes) x)):=by
 have hg:=Jz hi
 rw[hx]at hg
 clear hx
 have hf:=h.few
 have hnr:=h.n
 have htx:=h.text
 have h2:x.kids.length=2:=h.shp.two (by omega)
 obtain ⟨k,text,n,kids,pl⟩:=x
 dsimp only at *
 subst hk
 obtain ⟨a,b,rfl⟩:∃ a b,kids=[a,b]:=by
  match kids,h2 with
  |[a,b],_=>exact ⟨_,_,rfl⟩
 have e:Jf (Jb t.nodes) (Ja t.nodes) ⟨18,text,n,[a,b],pl⟩=opx (Jb t.nodes) (Ja t.nodes) a 8++[91]++Ja t.nodes b++[93]:=rfl
 rw[e]
 clear e
 have oa:=h.op (k:=a) (by simp) 8
 have la:=oa.2
 have sb:=h.txt b (by simp)
 have lb:=h.len b (by simp)
 unfold J3 at *
 generalize opx (Jb t.nodes) (Ja t.nodes) a 8=ua at *
 generalize Ja t.nodes b=ub at *
 have m0:=oa.1
 refine Jg c16_ok rfl rfl (by simp only[Ga,Gb]; decide) fun N0=>?_
 repeat first | refine ⟨by first | omega | decide | exact Jh (by omega) (by omega),?_⟩ | refine Jr (.inl rfl) (by assumption) ?_ | refine vr_f (by assumption) ?_ | refine Jm Jn (by decide) ?_ | simp -implicitDefEqProofs only[c16,go_sem,Tr.cv,Tr.row,Je,Nd.cv,Gc,iz2,hg]
 all_goals first | omega | rfl | exact ⟨by omega,rfl⟩ | exact Jh (by omega) (by omega) | decide | exact ⟨by decide,by decide⟩
theorem refText19 (t:Tr) (i:Nat) (hi:i < t.nodes.length) (x:Nd) (hx:t.nodes.getD i default=x) (h:RO t x) (hk:x.k=19):Fn Tryz.prog 16 [t.cv,.int .i64 (i:Int)] (S (Jf (Jb t.nodes) (Ja t.nodes) x)):=by
 have hg:=Jz hi
 rw[hx]at hg
 clear hx
 have hf:=h.few
 have hnr:=h.n
 have htx:=h.text
 have h2:x.kids.length=1:=h.shp.one (by omega)
 obtain ⟨k,text,n,kids,pl⟩:=x
 dsimp only at *
 subst hk
 obtain ⟨a,rfl⟩:∃ a,kids=[a]:=by
  match kids,h2 with
  |[a],_=>exact ⟨_,rfl⟩
 have e:Jf (Jb t.nodes) (Ja t.nodes) ⟨19,text,n,[a],pl⟩=[110,111,116,32]++opx (Jb t.nodes) (Ja t.nodes) a 3:=rfl
 rw[e]
 clear e
 have oa:=h.op (k:=a) (by simp) 3
 have la:=oa.2
 generalize opx (Jb t.nodes) (Ja t.nodes) a 3=ua at *
 have m0:=oa.1
 refine Jg c16_ok rfl rfl (by simp only[Ga,Gb]; decide) fun N0=>?_
 repeat first | refine ⟨by first | omega | decide | exact Jh (by omega) (by omega),?_⟩ | refine Jr (.inl rfl) (by assumption) ?_ | refine vr_f (by assumption) ?_ | refine Jm Jn (by decide) ?_ | simp -implicitDefEqProofs only[c16,go_sem,Tr.cv,Tr.row,Je,Nd.cv,Gc,iz1,hg]
 all_goals first | omega | rfl | exact ⟨by omega,rfl⟩ | exact Jh (by omega) (by omega) | decide | exact ⟨by decide,by decide⟩
theorem refText20 (t:Tr) (i:Nat) (hi:i < t.nodes.length) (x:Nd) (hx:t.nodes.getD i default=x) (h:RO t x) (hk:x.k=20):Fn Tryz.prog 16 [t.cv,.int .i64 (i:Int)] (S (Jf (Jb t.nodes) (Ja t.nodes) x)):=by
 have hg:=Jz hi
 rw[hx]at hg
 clear hx
 have hf:=h.few
 have hnr:=h.n
 have htx:=h.text
 have h2:x.kids.length=1:=h.shp.one (by omega)
 obtain ⟨k,text,n,kids,pl⟩:=x
 dsimp only at *
 subst hk
 obtain ⟨a,rfl⟩:∃ a,kids=[a]:=by
  match kids,h2 with
  |[a],_=>exact ⟨_,rfl⟩
 have e:Jf (Jb t.nodes) (Ja t.nodes) ⟨20,text,n,[a],pl⟩=[45]++opx (Jb t.nodes) (Ja t.nodes) a 7:=rfl
 rw[e]
 clear e
 have oa:=h.op (k:=a) (by simp) 7
 have la:=oa.2
 generalize opx (Jb t.nodes) (Ja t.nodes) a 7=ua at *
 have m0:=oa.1
 refine Jg c16_ok rfl rfl (by simp only[Ga,Gb]; decide) fun N0=>?_
 repeat first | refine ⟨by first | omega | decide | exact Jh (by omega) (by omega),?_⟩ | refine Jr (.inl rfl) (by assumption) ?_ | refine vr_f (by assumption) ?_ | refine Jm Jn (by decide) ?_ | simp -implicitDefEqProofs only[c16,go_sem,Tr.cv,Tr.row,Je,Nd.cv,Gc,iz1,hg]
 all_goals first | omega | rfl | exact ⟨by omega,rfl⟩ | exact Jh (by omega) (by omega) | decide | exact ⟨by decide,by decide⟩
theorem refText21 (t:Tr) (i:Nat) (hi:i < t.nodes.length) (x:Nd) (hx:t.nodes.getD i default=x) (h:RO t x) (hk:x.k=21):Fn Tryz.prog 16 [t.cv,.int .i64 (i:Int)] (S (Jf (Jb t.nodes) (Ja t.nodes) x)):=by
 have hg:=Jz hi
 rw[hx]at hg
 clear hx
 have hf:=h.few
 have hnr:=h.n
 have htx:=h.text
 have h2:x.kids.length=1:=h.shp.one (by omega)
 obtain ⟨k,text,n,kids,pl⟩:=x
 dsimp only at *
 subst hk
 obtain ⟨a,rfl⟩:∃ a,kids=[a]:=by
  match kids,h2 with
  |[a],_=>exact ⟨_,rfl⟩
 have e:Jf (Jb t.nodes) (Ja t.nodes) ⟨21,text,n,[a],pl⟩=wrd 21++[40]++Ja t.nodes a++[41]:=rfl
 rw[e]
 clear e
 have sa:=h.txt a (by simp)
 have la:=h.len a (by simp)
 have hwl:=Jas 21
 unfold J3 at *
 generalize Ja t.nodes a=ua at *
 have m0:=Jdt 21 (by decide)
 refine Jg c16_ok rfl rfl (by simp only[Ga,Gb]; decide) fun N0=>?_
 repeat first | refine ⟨by first | omega | decide | exact Jh (by omega) (by omega),?_⟩ | refine Jr (.inl rfl) (by assumption) ?_ | refine vr_f (by assumption) ?_ | refine Jm Jn (by decide) ?_ | simp -implicitDefEqProofs only[c16,go_sem,Tr.cv,Tr.row,Je,Nd.cv,Gc,iz1,hg]
 all_goals first | omega | rfl | exact ⟨by omega,rfl⟩ | exact Jh (by omega) (by omega) | decide | exact ⟨by decide,by decide⟩
theorem refText22 (t:Tr) (i:Nat) (hi:i < t.nodes.length) (x:Nd) (hx:t.nodes.getD i default=x) (h:RO t x) (hk:x.k=22):Fn Tryz.prog 16 [t.cv,.int .i64 (i:Int)] (S (Jf (Jb t.nodes) (Ja t.nodes) x)):=by
 have hg:=Jz hi
 rw[hx]at hg
 clear hx
 have hf:=h.few
 have hnr:=h.n
 have htx:=h.text
 have h2:x.kids.length=1:=h.shp.one (by omega)
 obtain ⟨k,text,n,kids,pl⟩:=x
 dsimp only at *
 subst hk
 obtain ⟨a,rfl⟩:∃ a,kids=[a]:=by
  match kids,h2 with
  |[a],_=>exact ⟨_,rfl⟩
 have e:Jf (Jb t.nodes) (Ja t.nodes) ⟨22,text,n,[a],pl⟩=wrd 22++[40]++Ja t.nodes a++[41]:=rfl
 rw[e]
 clear e
 have sa:=h.txt a (by simp)
 have la:=h.len a (by simp)
 have hwl:=Jas 22
 unfold J3 at *
 generalize Ja t.nodes a=ua at *
 have m0:=Jdt 22 (by decide)
 refine Jg c16_ok rfl rfl (by simp only[Ga,Gb]; decide) fun N0=>?_
 repeat first | refine ⟨by first | omega | decide | exact Jh (by omega) (by omega),?_⟩ | refine Jr (.inl rfl) (by assumption) ?_ | refine vr_f (by assumption) ?_ | refine Jm Jn (by decide) ?_ | simp -implicitDefEqProofs only[c16,go_sem,Tr.cv,Tr.row,Je,Nd.cv,Gc,iz1,hg]
 all_goals first | omega | rfl | exact ⟨by omega,rfl⟩ | exact Jh (by omega) (by omega) | decide | exact ⟨by decide,by decide⟩
theorem refText23 (t:Tr) (i:Nat) (hi:i < t.nodes.length) (x:Nd) (hx:t.nodes.getD i default=x) (h:RO t x) (hk:x.k=23):Fn Tryz.prog 16 [t.cv,.int .i64 (i:Int)] (S (Jf (Jb t.nodes) (Ja t.nodes) x)):=by
 have hg:=Jz hi
 rw[hx]at hg
 clear hx
 have hf:=h.few
 have hnr:=h.n
 have htx:=h.text
 have h2:x.kids.length=1:=h.shp.one (by omega)
 obtain ⟨k,text,n,kids,pl⟩:=x
 dsimp only at *
 subst hk
 obtain ⟨a,rfl⟩:∃ a,kids=[a]:=by
  match kids,h2 with
  |[a],_=>exact ⟨_,rfl⟩
 have e:Jf (Jb t.nodes) (Ja t.nodes) ⟨23,text,n,[a],pl⟩=wrd 23++[40]++Ja t.nodes a++[41]:=rfl
 rw[e]
 clear e
 have sa:=h.txt a (by simp)
 have la:=h.len a (by simp)
 have hwl:=Jas 23
 unfold J3 at *
 generalize Ja t.nodes a=ua at *
 have m0:=Jdt 23 (by decide)
 refine Jg c16_ok rfl rfl (by simp only[Ga,Gb]; decide) fun N0=>?_
 repeat first | refine ⟨by first | omega | decide | exact Jh (by omega) (by omega),?_⟩ | refine Jr (.inl rfl) (by assumption) ?_ | refine vr_f (by assumption) ?_ | refine Jm Jn (by decide) ?_ | simp -implicitDefEqProofs only[c16,go_sem,Tr.cv,Tr.row,Je,Nd.cv,Gc,iz1,hg]
 all_goals first | omega | rfl | exact ⟨by omega,rfl⟩ | exact Jh (by omega) (by omega) | decide | exact ⟨by decide,by decide⟩
theorem refText24 (t:Tr) (i:Nat) (hi:i < t.nodes.length) (x:Nd) (hx:t.nodes.getD i default=x) (h:RO t x) (hk:x.k=24):Fn Tryz.prog 16 [t.cv,.int .i64 (i:Int)] (S (Jf (Jb t.nodes) (Ja t.nodes) x)):=by
 have hg:=Jz hi
 rw[hx]at hg
 clear hx
 have hf:=h.few
 have hnr:=h.n
 have htx:=h.text
 have h2:x.kids.length=1:=h.shp.one (by omega)
 obtain ⟨k,text,n,kids,pl⟩:=x
 dsimp only at *
 subst hk
 obtain ⟨a,rfl⟩:∃ a,kids=[a]:=by
  match kids,h2 with
  |[a],_=>exact ⟨_,rfl⟩
 have e:Jf (Jb t.nodes) (Ja t.nodes) ⟨24,text,n,[a],pl⟩=wrd 24++[40]++Ja t.nodes a++[41]:=rfl
 rw[e]
 clear e
 have sa:=h.txt a (by simp)
 have la:=h.len a (by simp)
 have hwl:=Jas 24
 unfold J3 at *
 generalize Ja t.nodes a=ua at *
 have m0:=Jdt 24 (by decide)
 refine Jg c16_ok rfl rfl (by simp only[Ga,Gb]; decide) fun N0=>?_
 repeat first | refine ⟨by first | omega | decide | exact Jh (by omega) (by omega),?_⟩ | refine Jr (.inl rfl) (by assumption) ?_ | refine vr_f (by assumption) ?_ | refine Jm Jn (by decide) ?_ | simp -implicitDefEqProofs only[c16,go_sem,Tr.cv,Tr.row,Je,Nd.cv,Gc,iz1,hg]
 all_goals first | omega | rfl | exact ⟨by omega,rfl⟩ | exact Jh (by omega) (by omega) | decide | exact ⟨by decide,by decide⟩
theorem refText25 (t:Tr) (i:Nat) (hi:i < t.nodes.length) (x:Nd) (hx:t.nodes.getD i default=x) (h:RO t x) (hk:x.k=25):Fn Tryz.prog 16 [t.cv,.int .i64 (i:Int)] (S (Jf (Jb t.nodes) (Ja t.nodes) x)):=by
 have hg:=Jz hi
 rw[hx]at hg
 clear hx
 have hf:=h.few
 have hnr:=h.n
 have htx:=h.text
 have h2:x.kids.length=1:=h.shp.one (by omega)
 obtain ⟨k,text,n,kids,pl⟩:=x
 dsimp only at *
 subst hk
 obtain ⟨a,rfl⟩:∃ a,kids=[a]:=by
  match kids,h2 with
  |[a],_=>exact ⟨_,rfl⟩
 have e:Jf (Jb t.nodes) (Ja t.nodes) ⟨25,text,n,[a],pl⟩=[110,105,108]++[40]++Ja t.nodes a++[41]:=rfl
 rw[e]
 clear e
 have sa:=h.txt a (by simp)
 have la:=h.len a (by simp)
 unfold J3 at *
 generalize Ja t.nodes a=ua at *
 refine Jg c16_ok rfl rfl (by simp only[Ga,Gb]; decide) fun N0=>?_
 repeat first | refine ⟨by first | omega | decide | exact Jh (by omega) (by omega),?_⟩ | refine Jr (.inl rfl) (by assumption) ?_ | refine vr_f (by assumption) ?_ | refine Jm Jn (by decide) ?_ | simp -implicitDefEqProofs only[c16,go_sem,Tr.cv,Tr.row,Je,Nd.cv,Gc,iz1,hg]
 all_goals first | omega | rfl | exact ⟨by omega,rfl⟩ | exact Jh (by omega) (by omega) | decide | exact ⟨by decide,by decide⟩
theorem refText27 (t:Tr) (i:Nat) (hi:i < t.nodes.length) (x:Nd) (hx:t.nodes.getD i default=x) (h:RO t x) (hk:x.k=27):Fn Tryz.prog 16 [t.cv,.int .i64 (i:Int)] (S (Jf (Jb t.nodes) (Ja t.nodes) x)):=by
 have hg:=Jz hi
 rw[hx]at hg
 clear hx
 have hf:=h.few
 have hnr:=h.n
 have htx:=h.text
 have h2:x.kids.length=3:=h.shp.three (by omega)
 obtain ⟨k,text,n,kids,pl⟩:=x
 dsimp only at *
 subst hk
 obtain ⟨a,b,c,rfl⟩:∃ a b c,kids=[a,b,c]:=by
  match kids,h2 with
  |[a,b,c],_=>exact ⟨_,_,_,rfl⟩
 have e:Jf (Jb t.nodes) (Ja t.nodes) ⟨27,text,n,[a,b,c],pl⟩=[105,102,32]++Ja t.nodes a++[32]++Ja t.nodes b++[32,101,108,115,101,32]++Ja t.nodes c:=rfl
 rw[e]
 clear e
 have sa:=h.txt a (by simp)
 have la:=h.len a (by simp)
 have sb:=h.txt b (by simp)
 have lb:=h.len b (by simp)
 have sc:=h.txt c (by simp)
 have lc:=h.len c (by simp)
 unfold J3 at *
 generalize Ja t.nodes a=ua at *
 generalize Ja t.nodes b=ub at *
 generalize Ja t.nodes c=uc at *
 refine Jg c16_ok rfl rfl (by simp only[Ga,Gb]; decide) fun N0=>?_
 repeat first | refine ⟨by first | omega | decide | exact Jh (by omega) (by omega),?_⟩ | refine Jr (.inl rfl) (by assumption) ?_ | refine vr_f (by assumption) ?_ | refine Jm Jn (by decide) ?_ | simp -implicitDefEqProofs only[c16,go_sem,Tr.cv,Tr.row,Je,Nd.cv,Gc,iz3,hg]
 all_goals first | omega | rfl | exact ⟨by omega,rfl⟩ | exact Jh (by omega) (by omega) | decide | exact ⟨by decide,by decide⟩
theorem refText26 (t:Tr) (i:Nat) (hi:i < t.nodes.length) (x:Nd) (hx:t.nodes.getD i default=x) (h:RO t x) (hk:x.k=26):Fn Tryz.prog 16 [t.cv,.int .i64 (i:Int)] (S (Jf (Jb t.nodes) (Ja t.nodes) x)):=by
 have hg:=Jz hi
 rw[hx]at hg
 clear hx
 have hf:=h.few
 have hnr:=h.n
 have htx:=h.text
 obtain ⟨k,text,n,kids,pl⟩:=x
 dsimp only at *
 subst hk
 have e:Jf (Jb t.nodes) (Ja t.nodes) ⟨26,text,n,kids,pl⟩=text++[40]++Lib.join ((kids).map (Ja t.nodes)) [44,32]++[41]:=rfl
 rw[e]
 clear e
 have o1:=h.texts kids (fun k hk=>hk) (Nat.le_refl _) hf 44 32
 have l1:=o1.2
 generalize Lib.join ((kids).map (Ja t.nodes)) [44,32]=p at *
 have hil:(iz kids).length=kids.length:=Jo
 have m0:=o1.1
 refine Jg c16_ok rfl rfl (by simp only[Ga,Gb]; decide) fun N0=>?_
 repeat first | refine ⟨by first | omega | decide | exact Jh (by omega) (by omega),?_⟩ | refine Jr (.inl rfl) (by assumption) ?_ | refine vr_f (by assumption) ?_ | refine Jm Jn (by decide) ?_ | simp -implicitDefEqProofs only[c16,go_sem,Tr.cv,Tr.row,Je,Nd.cv,Gc,hil,Kh,Ki,hg]
 all_goals first | omega | rfl | exact ⟨by omega,rfl⟩ | exact Jh (by omega) (by omega) | decide | exact ⟨by decide,by decide⟩
theorem refText29a (t:Tr) (i:Nat) (hi:i < t.nodes.length) (x:Nd) (hx:t.nodes.getD i default=x) (h:RO t x) (hk:x.k=29) (hd:0 < x.n):Fn Tryz.prog 16 [t.cv,.int .i64 (i:Int)] (S (Jf (Jb t.nodes) (Ja t.nodes) x)):=by
 have hg:=Jz hi
 rw[hx]at hg
 clear hx
 have hf:=h.few
 have hnr:=h.n
 have htx:=h.text
 have hl:=h.shp.arr hk
 obtain ⟨k,text,n,kids,pl⟩:=x
 dsimp only at *
 subst hk
 obtain ⟨N,rfl⟩:∃ N:Nat,n=(N:Int):=⟨n.toNat,by omega⟩
 have e:Jf (Jb t.nodes) (Ja t.nodes) ⟨29,text,(N:Int),kids,pl⟩=[97,114,114,97,121,40]++Ja t.nodes (kid ⟨29,text,(N:Int),kids,pl⟩ (0))++(if 0 < (N:Int) then [44,32]++Lib.itoa (N:Int) else [])++[41,32,123,32]++Lib.join ((kids.drop 1).map (Ja t.nodes)) [59,32]++[32,125]:=rfl
 rw[e]
 clear e
 have ma:=KS (x:=⟨29,text,(N:Int),kids,pl⟩) (i:=0) (by dsimp only; omega)
 have ga:(iz kids).getD (0) []=[.int .i64 (kid ⟨29,text,(N:Int),kids,pl⟩ (0))]:=JV (by omega)
 have sa:=h.txt _ ma
 have la:=h.len _ ma
 have hdr:Gg (kids.length-1) (Gd 1 kids)=Gd 1 kids:=Gl (by rw[Gf]; exact Nat.le_refl _)
 have o1:=h.texts (kids.drop 1) (fun k hk=>Gi hk) (Ql _ _) (by rw[Gf]; omega) 59 32
 have l1:=o1.2
 have d1:((N:Int) > 0)=True:=eq_true hd
 rw[if_pos hd]
 have li:=Lib.itoa_length_le (N:Int) hnr.1 hnr.2
 unfold J3 at *
 generalize kid ⟨29,text,(N:Int),kids,pl⟩ (0)=a at *
 generalize Ja t.nodes a=ua at *
 generalize Lib.join ((kids.drop 1).map (Ja t.nodes)) [59,32]=p at *
 have hil:(iz kids).length=kids.length:=Jo
 have m0:=Xc N (by omega)
 have m1:=o1.1
 refine Jg c16_ok rfl rfl (by simp only[Ga,Gb]; decide) fun N0=>?_
 repeat first | refine ⟨by first | omega | decide | exact Jh (by omega) (by omega),?_⟩ | refine Jr (.inl rfl) (by assumption) ?_ | refine vr_f (by assumption) ?_ | refine Jm Jn (by decide) ?_ | simp -implicitDefEqProofs only[c16,go_sem,Tr.cv,Tr.row,Je,Nd.cv,Gc,hil,Kh,Ki,ga,d1,hdr,hg]
 all_goals first | omega | rfl | exact ⟨by omega,rfl⟩ | exact Jh (by omega) (by omega) | decide | exact ⟨by decide,by decide⟩
theorem refText29b (t:Tr) (i:Nat) (hi:i < t.nodes.length) (x:Nd) (hx:t.nodes.getD i default=x) (h:RO t x) (hk:x.k=29) (hd:¬ 0 < x.n):Fn Tryz.prog 16 [t.cv,.int .i64 (i:Int)] (S (Jf (Jb t.nodes) (Ja t.nodes) x)):=by
 have hg:=Jz hi
 rw[hx]at hg
 clear hx
 have hf:=h.few
 have hnr:=h.n
 have htx:=h.text
 have hl:=h.shp.arr hk
 obtain ⟨k,text,n,kids,pl⟩:=x
 dsimp only at *
 subst hk
 obtain ⟨N,rfl⟩:∃ N:Nat,n=(N:Int):=⟨n.toNat,by omega⟩
 have e:Jf (Jb t.nodes) (Ja t.nodes) ⟨29,text,(N:Int),kids,pl⟩=[97,114,114,97,121,40]++Ja t.nodes (kid ⟨29,text,(N:Int),kids,pl⟩ (0))++(if 0 < (N:Int) then [44,32]++Lib.itoa (N:Int) else [])++[41,32,123,32]++Lib.join ((kids.drop 1).map (Ja t.nodes)) [59,32]++[32,125]:=rfl
 rw[e]
 clear e
 have ma:=KS (x:=⟨29,text,(N:Int),kids,pl⟩) (i:=0) (by dsimp only; omega)
 have ga:(iz kids).getD (0) []=[.int .i64 (kid ⟨29,text,(N:Int),kids,pl⟩ (0))]:=JV (by omega)
 have sa:=h.txt _ ma
 have la:=h.len _ ma
 have hdr:Gg (kids.length-1) (Gd 1 kids)=Gd 1 kids:=Gl (by rw[Gf]; exact Nat.le_refl _)
 have o1:=h.texts (kids.drop 1) (fun k hk=>Gi hk) (Ql _ _) (by rw[Gf]; omega) 59 32
 have l1:=o1.2
 have d1:((N:Int) > 0)=False:=eq_false hd
 rw[if_neg hd]
 unfold J3 at *
 generalize kid ⟨29,text,(N:Int),kids,pl⟩ (0)=a at *
 generalize Ja t.nodes a=ua at *
 generalize Lib.join ((kids.drop 1).map (Ja t.nodes)) [59,32]=p at *
 have hil:(iz kids).length=kids.length:=Jo
 have m0:=o1.1
 refine Jg c16_ok rfl rfl (by simp only[Ga,Gb]; decide) fun N0=>?_
 repeat first | refine ⟨by first | omega | decide | exact Jh (by omega) (by omega),?_⟩ | refine Jr (.inl rfl) (by assumption) ?_ | refine vr_f (by assumption) ?_ | refine Jm Jn (by decide) ?_ | simp -implicitDefEqProofs only[c16,go_sem,Tr.cv,Tr.row,Je,Nd.cv,Gc,hil,Kh,Ki,ga,d1,hdr,hg]
 all_goals first | omega | rfl | exact ⟨by omega,rfl⟩ | exact Jh (by omega) (by omega) | decide | exact ⟨by decide,by decide⟩
theorem refOther41 (t:Tr) (x:Nd) (h:RO t x) (hk:x.k=41):Fn Tryz.prog 59 [t.cv,.agg x.cv] (S (Jf (Jb t.nodes) (Ja t.nodes) x)):=by
 have hf:=h.few
 have hnr:=h.n
 have htx:=h.text
 have hl:=h.shp.set hk
 obtain ⟨k,text,n,kids,pl⟩:=x
 dsimp only at *
 subst hk
 obtain ⟨N,rfl⟩:∃ N:Nat,n=(N:Int):=⟨n.toNat,by omega⟩
 have e:Jf (Jb t.nodes) (Ja t.nodes) ⟨41,text,(N:Int),kids,pl⟩=Lib.join ((kids.take N).map (Ja t.nodes)) [44,32]++[32,61,32]++Ja t.nodes (kid ⟨41,text,(N:Int),kids,pl⟩ (N)):=rfl
 rw[e]
 clear e
 have ma:=KS (x:=⟨41,text,(N:Int),kids,pl⟩) (i:=N) (by dsimp only; omega)
 have ga:(iz kids).getD (N) []=[.int .i64 (kid ⟨41,text,(N:Int),kids,pl⟩ (N))]:=JV (by omega)
 have sa:=h.txt _ ma
 have la:=h.len _ ma
 have hlast:(kids.length:Int)-1=(N:Int):=by omega
 have o1:=h.texts (kids.take N) (fun k hk=>Gh hk) (KN _ _) (by rw[Gj]; omega) 44 32
 have l1:=o1.2
 unfold J3 at *
 generalize kid ⟨41,text,(N:Int),kids,pl⟩ (N)=a at *
 generalize Ja t.nodes a=ua at *
 generalize Lib.join ((kids.take N).map (Ja t.nodes)) [44,32]=p at *
 have hil:(iz kids).length=kids.length:=Jo
 have m0:=o1.1
 refine Jg c59_ok rfl rfl (by simp only[Ga,Gb]; decide) fun N0=>?_
 repeat first | refine ⟨by first | omega | decide | exact Jh (by omega) (by omega),?_⟩ | refine Jr (.inl rfl) (by assumption) ?_ | refine vr_f (by assumption) ?_ | refine Jm Jn (by decide) ?_ | simp -implicitDefEqProofs only[c59,go_sem,Tr.cv,Tr.row,Je,Nd.cv,Gc,hil,Kh,Ki,ga,hlast]
 all_goals first | omega | rfl | exact ⟨by omega,rfl⟩ | exact Jh (by omega) (by omega) | decide | exact ⟨by decide,by decide⟩
theorem refOther42a (t:Tr) (x:Nd) (h:RO t x) (hk:x.k=42) (hd:x.kids=[]):Fn Tryz.prog 59 [t.cv,.agg x.cv] (S (Jf (Jb t.nodes) (Ja t.nodes) x)):=by
 have hf:=h.few
 have hnr:=h.n
 have htx:=h.text
 obtain ⟨k,text,n,kids,pl⟩:=x
 dsimp only at *
 subst hk hd
 have e:Jf (Jb t.nodes) (Ja t.nodes) ⟨42,text,n,[],pl⟩=text:=rfl
 rw[e]
 clear e
 refine Jg c59_ok rfl rfl (by simp only[Ga,Gb]; decide) fun N0=>?_
 repeat first | refine ⟨by first | omega | decide | exact Jh (by omega) (by omega),?_⟩ | refine Jr (.inl rfl) (by assumption) ?_ | refine vr_f (by assumption) ?_ | refine Jm Jn (by decide) ?_ | simp -implicitDefEqProofs only[c59,go_sem,Tr.cv,Tr.row,Je,Nd.cv,Gc,iz0]
 all_goals first | omega | rfl | exact ⟨by omega,rfl⟩ | exact Jh (by omega) (by omega) | decide | exact ⟨by decide,by decide⟩
theorem refOther42b (t:Tr) (x:Nd) (h:RO t x) (hk:x.k=42) (hd:x.kids≠[]):Fn Tryz.prog 59 [t.cv,.agg x.cv] (S (Jf (Jb t.nodes) (Ja t.nodes) x)):=by
 have hf:=h.few
 have hnr:=h.n
 have htx:=h.text
 have h2:x.kids.length=1:=by have:=h.shp.bind hk; have:x.kids.length≠0:=fun e=>hd (List.eq_nil_of_length_eq_zero e); omega
 obtain ⟨k,text,n,kids,pl⟩:=x
 dsimp only at *
 subst hk
 obtain ⟨a,rfl⟩:∃ a,kids=[a]:=by
  match kids,h2 with
  |[a],_=>exact ⟨_,rfl⟩
 have e:Jf (Jb t.nodes) (Ja t.nodes) ⟨42,text,n,[a],pl⟩=text++[58,32]++Ja t.nodes a:=rfl
 rw[e]
 clear e
 have sa:=h.txt a (by simp)
 have la:=h.len a (by simp)
 unfold J3 at *
 generalize Ja t.nodes a=ua at *
 refine Jg c59_ok rfl rfl (by simp only[Ga,Gb]; decide) fun N0=>?_
 repeat first | refine ⟨by first | omega | decide | exact Jh (by omega) (by omega),?_⟩ | refine Jr (.inl rfl) (by assumption) ?_ | refine vr_f (by assumption) ?_ | refine Jm Jn (by decide) ?_ | simp -implicitDefEqProofs only[c59,go_sem,Tr.cv,Tr.row,Je,Nd.cv,Gc,iz1]
 all_goals first | omega | rfl | exact ⟨by omega,rfl⟩ | exact Jh (by omega) (by omega) | decide | exact ⟨by decide,by decide⟩
theorem refOther43 (t:Tr) (x:Nd) (h:RO t x) (hk:x.k=43):Fn Tryz.prog 59 [t.cv,.agg x.cv] (S (Jf (Jb t.nodes) (Ja t.nodes) x)):=by
 have hf:=h.few
 have hnr:=h.n
 have htx:=h.text
 have h2:x.kids.length=1:=h.shp.one (by omega)
 obtain ⟨k,text,n,kids,pl⟩:=x
 dsimp only at *
 subst hk
 obtain ⟨a,rfl⟩:∃ a,kids=[a]:=by
  match kids,h2 with
  |[a],_=>exact ⟨_,rfl⟩
 have e:Jf (Jb t.nodes) (Ja t.nodes) ⟨43,text,n,[a],pl⟩=text++[32,58,61,32]++Ja t.nodes a:=rfl
 rw[e]
 clear e
 have sa:=h.txt a (by simp)
 have la:=h.len a (by simp)
 unfold J3 at *
 generalize Ja t.nodes a=ua at *
 refine Jg c59_ok rfl rfl (by simp only[Ga,Gb]; decide) fun N0=>?_
 repeat first | refine ⟨by first | omega | decide | exact Jh (by omega) (by omega),?_⟩ | refine Jr (.inl rfl) (by assumption) ?_ | refine vr_f (by assumption) ?_ | refine Jm Jn (by decide) ?_ | simp -implicitDefEqProofs only[c59,go_sem,Tr.cv,Tr.row,Je,Nd.cv,Gc,iz1]
 all_goals first | omega | rfl | exact ⟨by omega,rfl⟩ | exact Jh (by omega) (by omega) | decide | exact ⟨by decide,by decide⟩
theorem refOther44 (t:Tr) (x:Nd) (h:RO t x) (hk:x.k=44):Fn Tryz.prog 59 [t.cv,.agg x.cv] (S (Jf (Jb t.nodes) (Ja t.nodes) x)):=by
 have hf:=h.few
 have hnr:=h.n
 have htx:=h.text
 have h2:x.kids.length=1:=h.shp.one (by omega)
 obtain ⟨k,text,n,kids,pl⟩:=x
 dsimp only at *
 subst hk
 obtain ⟨a,rfl⟩:∃ a,kids=[a]:=by
  match kids,h2 with
  |[a],_=>exact ⟨_,rfl⟩
 have e:Jf (Jb t.nodes) (Ja t.nodes) ⟨44,text,n,[a],pl⟩=[110,101,120,116,32]++text++[32,61,32]++Ja t.nodes a:=rfl
 rw[e]
 clear e
 have sa:=h.txt a (by simp)
 have la:=h.len a (by simp)
 unfold J3 at *
 generalize Ja t.nodes a=ua at *
 refine Jg c59_ok rfl rfl (by simp only[Ga,Gb]; decide) fun N0=>?_
 repeat first | refine ⟨by first | omega | decide | exact Jh (by omega) (by omega),?_⟩ | refine Jr (.inl rfl) (by assumption) ?_ | refine vr_f (by assumption) ?_ | refine Jm Jn (by decide) ?_ | simp -implicitDefEqProofs only[c59,go_sem,Tr.cv,Tr.row,Je,Nd.cv,Gc,iz1]
 all_goals first | omega | rfl | exact ⟨by omega,rfl⟩ | exact Jh (by omega) (by omega) | decide | exact ⟨by decide,by decide⟩
theorem refOther45 (t:Tr) (x:Nd) (h:RO t x) (hk:x.k=45):Fn Tryz.prog 59 [t.cv,.agg x.cv] (S (Jf (Jb t.nodes) (Ja t.nodes) x)):=by
 have hf:=h.few
 have hnr:=h.n
 have htx:=h.text
 obtain ⟨k,text,n,kids,pl⟩:=x
 dsimp only at *
 subst hk
 have e:Jf (Jb t.nodes) (Ja t.nodes) ⟨45,text,n,kids,pl⟩=[103,105,118,101,40]++Lib.join ((kids).map (Ja t.nodes)) [44,32]++[41]:=rfl
 rw[e]
 clear e
 have o1:=h.texts kids (fun k hk=>hk) (Nat.le_refl _) hf 44 32
 have l1:=o1.2
 generalize Lib.join ((kids).map (Ja t.nodes)) [44,32]=p at *
 have hil:(iz kids).length=kids.length:=Jo
 have m0:=o1.1
 refine Jg c59_ok rfl rfl (by simp only[Ga,Gb]; decide) fun N0=>?_
 repeat first | refine ⟨by first | omega | decide | exact Jh (by omega) (by omega),?_⟩ | refine Jr (.inl rfl) (by assumption) ?_ | refine vr_f (by assumption) ?_ | refine Jm Jn (by decide) ?_ | simp -implicitDefEqProofs only[c59,go_sem,Tr.cv,Tr.row,Je,Nd.cv,Gc,hil,Kh,Ki]
 all_goals first | omega | rfl | exact ⟨by omega,rfl⟩ | exact Jh (by omega) (by omega) | decide | exact ⟨by decide,by decide⟩
theorem refOther46 (t:Tr) (x:Nd) (h:RO t x) (hk:x.k=46):Fn Tryz.prog 59 [t.cv,.agg x.cv] (S (Jf (Jb t.nodes) (Ja t.nodes) x)):=by
 have hf:=h.few
 have hnr:=h.n
 have htx:=h.text
 have h2:x.kids.length=2:=h.shp.two (by omega)
 obtain ⟨k,text,n,kids,pl⟩:=x
 dsimp only at *
 subst hk
 obtain ⟨a,b,rfl⟩:∃ a b,kids=[a,b]:=by
  match kids,h2 with
  |[a,b],_=>exact ⟨_,_,rfl⟩
 have e:Jf (Jb t.nodes) (Ja t.nodes) ⟨46,text,n,[a,b],pl⟩=[91]++Ja t.nodes a++[93,32,61,32]++Ja t.nodes b:=rfl
 rw[e]
 clear e
 have sa:=h.txt a (by simp)
 have la:=h.len a (by simp)
 have sb:=h.txt b (by simp)
 have lb:=h.len b (by simp)
 unfold J3 at *
 generalize Ja t.nodes a=ua at *
 generalize Ja t.nodes b=ub at *
 refine Jg c59_ok rfl rfl (by simp only[Ga,Gb]; decide) fun N0=>?_
 repeat first | refine ⟨by first | omega | decide | exact Jh (by omega) (by omega),?_⟩ | refine Jr (.inl rfl) (by assumption) ?_ | refine vr_f (by assumption) ?_ | refine Jm Jn (by decide) ?_ | simp -implicitDefEqProofs only[c59,go_sem,Tr.cv,Tr.row,Je,Nd.cv,Gc,iz2]
 all_goals first | omega | rfl | exact ⟨by omega,rfl⟩ | exact Jh (by omega) (by omega) | decide | exact ⟨by decide,by decide⟩
theorem refOther47a (t:Tr) (x:Nd) (h:RO t x) (hk:x.k=47) (hd:x.n≠1):Fn Tryz.prog 59 [t.cv,.agg x.cv] (S (Jf (Jb t.nodes) (Ja t.nodes) x)):=by
 have hf:=h.few
 have hnr:=h.n
 have htx:=h.text
 have h2:x.kids.length=3:=h.shp.three (by omega)
 have hsp:=h.shp.span hk
 obtain ⟨k,text,n,kids,pl⟩:=x
 dsimp only at *
 subst hk
 obtain ⟨N,rfl⟩:∃ N:Nat,n=(N:Int):=⟨n.toNat,by omega⟩
 obtain ⟨a,b,c,rfl⟩:∃ a b c,kids=[a,b,c]:=by
  match kids,h2 with
  |[a,b,c],_=>exact ⟨_,_,_,rfl⟩
 have e:Jf (Jb t.nodes) (Ja t.nodes) ⟨47,text,(N:Int),[a,b,c],pl⟩=[91]++text++[32,105,110,32]++Ja t.nodes a++[46,46]++Ja t.nodes b++(if (N:Int)≠1 then [32,98,121,32]++Lib.itoa (N:Int) else [])++[93,32,61,32]++Ja t.nodes c:=rfl
 rw[e]
 clear e
 have sa:=h.txt a (by simp)
 have la:=h.len a (by simp)
 have sb:=h.txt b (by simp)
 have lb:=h.len b (by simp)
 have sc:=h.txt c (by simp)
 have lc:=h.len c (by simp)
 have d1:((N:Int) > 1)=True:=eq_true (by omega)
 rw[if_pos hd]
 have li:=Lib.itoa_length_le (N:Int) hnr.1 hnr.2
 unfold J3 at *
 generalize Ja t.nodes a=ua at *
 generalize Ja t.nodes b=ub at *
 generalize Ja t.nodes c=uc at *
 have m0:=Xc N (by omega)
 refine Jg c59_ok rfl rfl (by simp only[Ga,Gb]; decide) fun N0=>?_
 repeat first | refine ⟨by first | omega | decide | exact Jh (by omega) (by omega),?_⟩ | refine Jr (.inl rfl) (by assumption) ?_ | refine vr_f (by assumption) ?_ | refine Jm Jn (by decide) ?_ | simp -implicitDefEqProofs only[c59,go_sem,Tr.cv,Tr.row,Je,Nd.cv,Gc,iz3,d1]
 all_goals first | omega | rfl | exact ⟨by omega,rfl⟩ | exact Jh (by omega) (by omega) | decide | exact ⟨by decide,by decide⟩
theorem refOther47b (t:Tr) (x:Nd) (h:RO t x) (hk:x.k=47) (hd:¬ x.n≠1):Fn Tryz.prog 59 [t.cv,.agg x.cv] (S (Jf (Jb t.nodes) (Ja t.nodes) x)):=by
 have hf:=h.few
 have hnr:=h.n
 have htx:=h.text
 have h2:x.kids.length=3:=h.shp.three (by omega)
 have hsp:=h.shp.span hk
 obtain ⟨k,text,n,kids,pl⟩:=x
 dsimp only at *
 subst hk
 obtain ⟨N,rfl⟩:∃ N:Nat,n=(N:Int):=⟨n.toNat,by omega⟩
 obtain ⟨a,b,c,rfl⟩:∃ a b c,kids=[a,b,c]:=by
  match kids,h2 with
  |[a,b,c],_=>exact ⟨_,_,_,rfl⟩
 have e:Jf (Jb t.nodes) (Ja t.nodes) ⟨47,text,(N:Int),[a,b,c],pl⟩=[91]++text++[32,105,110,32]++Ja t.nodes a++[46,46]++Ja t.nodes b++(if (N:Int)≠1 then [32,98,121,32]++Lib.itoa (N:Int) else [])++[93,32,61,32]++Ja t.nodes c:=rfl
 rw[e]
 clear e
 have sa:=h.txt a (by simp)
 have la:=h.len a (by simp)
 have sb:=h.txt b (by simp)
 have lb:=h.len b (by simp)
 have sc:=h.txt c (by simp)
 have lc:=h.len c (by simp)
 have d1:((N:Int) > 1)=False:=eq_false (by omega)
 rw[if_neg hd]
 unfold J3 at *
 generalize Ja t.nodes a=ua at *
 generalize Ja t.nodes b=ub at *
 generalize Ja t.nodes c=uc at *
 refine Jg c59_ok rfl rfl (by simp only[Ga,Gb]; decide) fun N0=>?_
 repeat first | refine ⟨by first | omega | decide | exact Jh (by omega) (by omega),?_⟩ | refine Jr (.inl rfl) (by assumption) ?_ | refine vr_f (by assumption) ?_ | refine Jm Jn (by decide) ?_ | simp -implicitDefEqProofs only[c59,go_sem,Tr.cv,Tr.row,Je,Nd.cv,Gc,iz3,d1]
 all_goals first | omega | rfl | exact ⟨by omega,rfl⟩ | exact Jh (by omega) (by omega) | decide | exact ⟨by decide,by decide⟩
theorem refOther48a (t:Tr) (x:Nd) (h:RO t x) (hk:x.k=48) (hd:x.text=[]):Fn Tryz.prog 59 [t.cv,.agg x.cv] (S (Jf (Jb t.nodes) (Ja t.nodes) x)):=by
 have hf:=h.few
 have hnr:=h.n
 have htx:=h.text
 have hb:=h.shp.bound hk
 obtain ⟨k,text,n,kids,pl⟩:=x
 dsimp only at *
 subst hk hd
 obtain ⟨N,rfl⟩:∃ N:Nat,n=(N:Int):=⟨n.toNat,by omega⟩
 have e:Jf (Jb t.nodes) (Ja t.nodes) ⟨48,[],(N:Int),kids,pl⟩=Lib.itoa (N:Int):=rfl
 rw[e]
 clear e
 have hil:(iz kids).length=kids.length:=Jo
 have d1:(([]:List UInt8) == [])=true:=rfl
 have m0:=Xc N (by omega)
 refine Jg c59_ok rfl rfl (by simp only[Ga,Gb]; decide) fun N0=>?_
 repeat first | refine ⟨by first | omega | decide | exact Jh (by omega) (by omega),?_⟩ | refine Jr (.inl rfl) (by assumption) ?_ | refine vr_f (by assumption) ?_ | refine Jm Jn (by decide) ?_ | simp -implicitDefEqProofs only[c59,go_sem,Tr.cv,Tr.row,Je,Nd.cv,Gc,d1,hil]
 all_goals first | omega | rfl | exact ⟨by omega,rfl⟩ | exact Jh (by omega) (by omega) | decide | exact ⟨by decide,by decide⟩
theorem refOther48b (t:Tr) (x:Nd) (h:RO t x) (hk:x.k=48) (hd:x.text=[35]) (hz:x.n=0):Fn Tryz.prog 59 [t.cv,.agg x.cv] (S (Jf (Jb t.nodes) (Ja t.nodes) x)):=by
 have hf:=h.few
 have hnr:=h.n
 have htx:=h.text
 obtain ⟨k,text,n,kids,pl⟩:=x
 dsimp only at *
 subst hk hd hz
 have e:Jf (Jb t.nodes) (Ja t.nodes) ⟨48,[35],0,kids,pl⟩=[35]:=rfl
 rw[e]
 clear e
 have hil:(iz kids).length=kids.length:=Jo
 have d1:(([35]:List UInt8) == [])=false:=rfl
 refine Jg c59_ok rfl rfl (by simp only[Ga,Gb]; decide) fun N0=>?_
 repeat first | refine ⟨by first | omega | decide | exact Jh (by omega) (by omega),?_⟩ | refine Jr (.inl rfl) (by assumption) ?_ | refine vr_f (by assumption) ?_ | refine Jm Jn (by decide) ?_ | simp -implicitDefEqProofs only[c59,go_sem,Tr.cv,Tr.row,Je,Nd.cv,Gc,d1,hil]
 all_goals first | omega | rfl | exact ⟨by omega,rfl⟩ | exact Jh (by omega) (by omega) | decide | exact ⟨by decide,by decide⟩
theorem refOther48c (t:Tr) (x:Nd) (h:RO t x) (hk:x.k=48) (hd:x.text=[35]) (hz:x.n≠0):Fn Tryz.prog 59 [t.cv,.agg x.cv] (S (Jf (Jb t.nodes) (Ja t.nodes) x)):=by
 have hf:=h.few
 have hnr:=h.n
 have htx:=h.text
 have hb:=h.shp.bound hk
 obtain ⟨k,text,n,kids,pl⟩:=x
 dsimp only at *
 subst hk hd
 obtain ⟨N,rfl⟩:∃ N:Nat,n=(N:Int):=⟨n.toNat,by omega⟩
 have e:Jf (Jb t.nodes) (Ja t.nodes) ⟨48,[35],(N:Int),kids,pl⟩=(if (N:Int)=0 then [35] else [35]++[32,45,32]++Lib.itoa (N:Int)):=rfl
 rw[e]
 clear e
 have hil:(iz kids).length=kids.length:=Jo
 have d1:(([35]:List UInt8) == [])=false:=rfl
 have d2:((N:Int) == 0)=false:=by simpa using hz
 have li:=Lib.itoa_length_le (N:Int) hnr.1 hnr.2
 rw[if_neg hz]
 have m0:=Xc N (by omega)
 refine Jg c59_ok rfl rfl (by simp only[Ga,Gb]; decide) fun N0=>?_
 repeat first | refine ⟨by first | omega | decide | exact Jh (by omega) (by omega),?_⟩ | refine Jr (.inl rfl) (by assumption) ?_ | refine vr_f (by assumption) ?_ | refine Jm Jn (by decide) ?_ | simp -implicitDefEqProofs only[c59,go_sem,Tr.cv,Tr.row,Je,Nd.cv,Gc,d1,d2,hil]
 all_goals first | omega | rfl | exact ⟨by omega,rfl⟩ | exact Jh (by omega) (by omega) | decide | exact ⟨by decide,by decide⟩
theorem refOther60 (t:Tr) (x:Nd) (h:RO t x) (hk:x.k=60):Fn Tryz.prog 59 [t.cv,.agg x.cv] (S (Jf (Jb t.nodes) (Ja t.nodes) x)):=by
 have hf:=h.few
 have hnr:=h.n
 have htx:=h.text
 obtain ⟨k,text,n,kids,pl⟩:=x
 dsimp only at *
 subst hk
 have e:Jf (Jb t.nodes) (Ja t.nodes) ⟨60,text,n,kids,pl⟩=[105,110,116]:=rfl
 rw[e]
 clear e
 have hil:(iz kids).length=kids.length:=Jo
 refine Jg c59_ok rfl rfl (by simp only[Ga,Gb]; decide) fun N0=>?_
 repeat first | refine ⟨by first | omega | decide | exact Jh (by omega) (by omega),?_⟩ | refine Jr (.inl rfl) (by assumption) ?_ | refine vr_f (by assumption) ?_ | refine Jm Jn (by decide) ?_ | simp -implicitDefEqProofs only[c59,go_sem,Tr.cv,Tr.row,Je,Nd.cv,Gc,hil]
 all_goals first | omega | rfl | exact ⟨by omega,rfl⟩ | exact Jh (by omega) (by omega) | decide | exact ⟨by decide,by decide⟩
theorem refOther61 (t:Tr) (x:Nd) (h:RO t x) (hk:x.k=61):Fn Tryz.prog 59 [t.cv,.agg x.cv] (S (Jf (Jb t.nodes) (Ja t.nodes) x)):=by
 have hf:=h.few
 have hnr:=h.n
 have htx:=h.text
 obtain ⟨k,text,n,kids,pl⟩:=x
 dsimp only at *
 subst hk
 have e:Jf (Jb t.nodes) (Ja t.nodes) ⟨61,text,n,kids,pl⟩=[98,111,111,108]:=rfl
 rw[e]
 clear e
 have hil:(iz kids).length=kids.length:=Jo
 refine Jg c59_ok rfl rfl (by simp only[Ga,Gb]; decide) fun N0=>?_
 repeat first | refine ⟨by first | omega | decide | exact Jh (by omega) (by omega),?_⟩ | refine Jr (.inl rfl) (by assumption) ?_ | refine vr_f (by assumption) ?_ | refine Jm Jn (by decide) ?_ | simp -implicitDefEqProofs only[c59,go_sem,Tr.cv,Tr.row,Je,Nd.cv,Gc,hil]
 all_goals first | omega | rfl | exact ⟨by omega,rfl⟩ | exact Jh (by omega) (by omega) | decide | exact ⟨by decide,by decide⟩
theorem refOther62 (t:Tr) (x:Nd) (h:RO t x) (hk:x.k=62):Fn Tryz.prog 59 [t.cv,.agg x.cv] (S (Jf (Jb t.nodes) (Ja t.nodes) x)):=by
 have hf:=h.few
 have hnr:=h.n
 have htx:=h.text
 have h2:x.kids.length=1:=h.shp.one (by omega)
 obtain ⟨k,text,n,kids,pl⟩:=x
 dsimp only at *
 subst hk
 obtain ⟨a,rfl⟩:∃ a,kids=[a]:=by
  match kids,h2 with
  |[a],_=>exact ⟨_,rfl⟩
 have e:Jf (Jb t.nodes) (Ja t.nodes) ⟨62,text,n,[a],pl⟩=[91]++Ja t.nodes a++[93]:=rfl
 rw[e]
 clear e
 have sa:=h.txt a (by simp)
 have la:=h.len a (by simp)
 unfold J3 at *
 generalize Ja t.nodes a=ua at *
 refine Jg c59_ok rfl rfl (by simp only[Ga,Gb]; decide) fun N0=>?_
 repeat first | refine ⟨by first | omega | decide | exact Jh (by omega) (by omega),?_⟩ | refine Jr (.inl rfl) (by assumption) ?_ | refine vr_f (by assumption) ?_ | refine Jm Jn (by decide) ?_ | simp -implicitDefEqProofs only[c59,go_sem,Tr.cv,Tr.row,Je,Nd.cv,Gc,iz1]
 all_goals first | omega | rfl | exact ⟨by omega,rfl⟩ | exact Jh (by omega) (by omega) | decide | exact ⟨by decide,by decide⟩
theorem refOther63 (t:Tr) (x:Nd) (h:RO t x) (hk:x.k=63):Fn Tryz.prog 59 [t.cv,.agg x.cv] (S (Jf (Jb t.nodes) (Ja t.nodes) x)):=by
 have hf:=h.few
 have hnr:=h.n
 have htx:=h.text
 have h2:x.kids.length=1:=h.shp.one (by omega)
 obtain ⟨k,text,n,kids,pl⟩:=x
 dsimp only at *
 subst hk
 obtain ⟨a,rfl⟩:∃ a,kids=[a]:=by
  match kids,h2 with
  |[a],_=>exact ⟨_,rfl⟩
 have e:Jf (Jb t.nodes) (Ja t.nodes) ⟨63,text,n,[a],pl⟩=[115,116,114,101,97,109,32]++Ja t.nodes a:=rfl
 rw[e]
 clear e
 have sa:=h.txt a (by simp)
 have la:=h.len a (by simp)
 unfold J3 at *
 generalize Ja t.nodes a=ua at *
 refine Jg c59_ok rfl rfl (by simp only[Ga,Gb]; decide) fun N0=>?_
 repeat first | refine ⟨by first | omega | decide | exact Jh (by omega) (by omega),?_⟩ | refine Jr (.inl rfl) (by assumption) ?_ | refine vr_f (by assumption) ?_ | refine Jm Jn (by decide) ?_ | simp -implicitDefEqProofs only[c59,go_sem,Tr.cv,Tr.row,Je,Nd.cv,Gc,iz1]
 all_goals first | omega | rfl | exact ⟨by omega,rfl⟩ | exact Jh (by omega) (by omega) | decide | exact ⟨by decide,by decide⟩
theorem refOther64 (t:Tr) (x:Nd) (h:RO t x) (hk:x.k=64):Fn Tryz.prog 59 [t.cv,.agg x.cv] (S (Jf (Jb t.nodes) (Ja t.nodes) x)):=by
 have hf:=h.few
 have hnr:=h.n
 have htx:=h.text
 have h2:x.kids.length=1:=h.shp.one (by omega)
 obtain ⟨k,text,n,kids,pl⟩:=x
 dsimp only at *
 subst hk
 obtain ⟨a,rfl⟩:∃ a,kids=[a]:=by
  match kids,h2 with
  |[a],_=>exact ⟨_,rfl⟩
 have e:Jf (Jb t.nodes) (Ja t.nodes) ⟨64,text,n,[a],pl⟩=text++[58,32]++Ja t.nodes a:=rfl
 rw[e]
 clear e
 have sa:=h.txt a (by simp)
 have la:=h.len a (by simp)
 unfold J3 at *
 generalize Ja t.nodes a=ua at *
 refine Jg c59_ok rfl rfl (by simp only[Ga,Gb]; decide) fun N0=>?_
 repeat first | refine ⟨by first | omega | decide | exact Jh (by omega) (by omega),?_⟩ | refine Jr (.inl rfl) (by assumption) ?_ | refine vr_f (by assumption) ?_ | refine Jm Jn (by decide) ?_ | simp -implicitDefEqProofs only[c59,go_sem,Tr.cv,Tr.row,Je,Nd.cv,Gc,iz1]
 all_goals first | omega | rfl | exact ⟨by omega,rfl⟩ | exact Jh (by omega) (by omega) | decide | exact ⟨by decide,by decide⟩
theorem refOther65 (t:Tr) (x:Nd) (h:RO t x) (hk:x.k=65):Fn Tryz.prog 59 [t.cv,.agg x.cv] (S (Jf (Jb t.nodes) (Ja t.nodes) x)):=by
 have hf:=h.few
 have hnr:=h.n
 have htx:=h.text
 have hl:=h.shp.de hk
 obtain ⟨k,text,n,kids,pl⟩:=x
 dsimp only at *
 subst hk
 obtain ⟨N,rfl⟩:∃ N:Nat,n=(N:Int):=⟨n.toNat,by omega⟩
 have e:Jf (Jb t.nodes) (Ja t.nodes) ⟨65,text,(N:Int),kids,pl⟩=[100,101,102,32]++text++[40]++Lib.join ((kids.take N).map (Ja t.nodes)) [44,32]++[41,32,45,62,32]++Lib.join (((kids.take (kids.length-1)).drop N).map (Ja t.nodes)) [44,32]++[32]++Ja t.nodes (kid ⟨65,text,(N:Int),kids,pl⟩ (kids.length-1)):=rfl
 rw[e]
 clear e
 have mb:=KS (x:=⟨65,text,(N:Int),kids,pl⟩) (i:=kids.length-1) (by dsimp only; omega)
 have gb:(iz kids).getD (kids.length-1) []=[.int .i64 (kid ⟨65,text,(N:Int),kids,pl⟩ (kids.length-1))]:=JV (by omega)
 have sb:=h.txt _ mb
 have lb:=h.len _ mb
 have hmid:Gg (kids.length-1-N) (Gd N kids)=Gd N (Gg (kids.length-1) kids):=List.drop_take.symm
 have o1:=h.texts (kids.take N) (fun k hk=>Gh hk) (KN _ _) (by rw[Gj]; omega) 44 32
 have l1:=o1.2
 have o2:=h.texts ((kids.take (kids.length-1)).drop N) (fun k hk=>Gh (Gi hk)) (Nat.le_trans (Ql _ _) (KN _ _)) (by rw[Gf,Gj]; omega) 44 32
 have l2:=o2.2
 unfold J3 at *
 generalize kid ⟨65,text,(N:Int),kids,pl⟩ (kids.length-1)=b at *
 generalize Ja t.nodes b=ub at *
 generalize Lib.join ((kids.take N).map (Ja t.nodes)) [44,32]=p at *
 generalize Lib.join (((kids.take (kids.length-1)).drop N).map (Ja t.nodes)) [44,32]=q at *
 have hil:(iz kids).length=kids.length:=Jo
 have m0:=o1.1
 have m1:=o2.1
 refine Jg c59_ok rfl rfl (by simp only[Ga,Gb]; decide) fun N0=>?_
 repeat first | refine ⟨by first | omega | decide | exact Jh (by omega) (by omega),?_⟩ | refine Jr (.inl rfl) (by assumption) ?_ | refine vr_f (by assumption) ?_ | refine Jm Jn (by decide) ?_ | simp -implicitDefEqProofs only[c59,go_sem,Tr.cv,Tr.row,Je,Nd.cv,Gc,hil,Kh,Ki,gb,hmid]
 all_goals first | omega | rfl | exact ⟨by omega,rfl⟩ | exact Jh (by omega) (by omega) | decide | exact ⟨by decide,by decide⟩
end Go.Cm
end
end
