/-
  Part of a proof about the package floodgatelaw02 (shortened by a program). Conditions: none.
-/
import Derived.Test.YthbifneaknlfgaaGreatDoorHP18
set_option linter.unusedSimpArgs false
set_option linter.unusedVariables false
open Int renaming cast_ofNat_Int→Ga
noncomputable section
section
set_option maxRecDepth 100000
set_option maxHeartbeats 4000000
open Go.Proofs
namespace Go.Cm
theorem Xc:∀ (n:Nat),n≤1000000000→Fn Tryz.prog 51 [.int .i64 (n:Int)] (S (Lib.itoa (n:Int))):=by
 intro n
 induction n using Nat.strongRecOn with
 |ind n ih=>
  intro hn
  rw[Lib.itoa_nonneg]
  refine Jc c51_ok rfl rfl fun N=>?_
  by_cases h:n < 10
  ·have d1:((n:Int) < 10)=True:=eq_true (by omega)
   have hd:Lib.decDigits n=([48,49,50,51,52,53,54,55,56,57].take (n+1)).drop n:=by
    rw[Lib.decDigits_one h]
    have:∀ m:Fin 10,[UInt8.ofNat (48+m.val)]=(([48,49,50,51,52,53,54,55,56,57]:List UInt8).take (m.val+1)).drop m.val:=by decide
    exact this ⟨n,h⟩
   have hs:((n:Int)+1).toNat=n+1:=by omega
   simp -implicitDefEqProofs only[c51,go_sem,d1,hs]
   rw[hd]
   exact ⟨Jh (by omega) (by omega),by omega,rfl⟩
  ·have d1:((n:Int) < 10)=False:=eq_false (by omega)
   have i1:=ih (n / 10) (by omega) (by omega)
   have i2:=ih (n % 10) (by omega) (by omega)
   rw[Lib.itoa_nonneg]at i1 i2
   have e:Lib.decDigits n=Lib.decDigits (n / 10)++Lib.decDigits (n % 10):=by
    rw[Lib.decDigits,dif_neg h,Lib.decDigits_one (i:=n % 10) (by omega)]
   rw[e]
   have l1:=Lib.itoa_length_le ((n / 10:Nat):Int) (by omega) (by omega)
   have l2:=Lib.itoa_length_le ((n % 10:Nat):Int) (by omega) (by omega)
   rw[Lib.itoa_nonneg]at l1 l2
   generalize Lib.decDigits (n / 10)=x at i1 l1 ⊢
   generalize Lib.decDigits (n % 10)=y at i2 l2 ⊢
   have e1:(n:Int).tdiv 10=((n / 10:Nat):Int):=by
    rw[Int.tdiv_eq_ediv_of_nonneg (by omega)]; omega
   have e2:(n:Int).tmod 10=((n % 10:Nat):Int):=by
    rw[Int.tmod_eq_emod_of_nonneg (by omega)]; omega
   simp -implicitDefEqProofs only[c51,go_sem,d1,e1,e2]
   repeat (refine ⟨by first | omega | decide | exact Jh (by omega) (by omega) | exact ⟨by decide,Jh (by omega) (by omega)⟩,?_⟩)
   refine vr_f i1 ?_
   simp -implicitDefEqProofs only[go_sem,e1,e2]
   repeat (refine ⟨by first | omega | decide | exact Jh (by omega) (by omega) | exact ⟨by decide,Jh (by omega) (by omega)⟩,?_⟩)
   refine vr_f i2 ?_
   simp -implicitDefEqProofs only[go_sem]
   omega
theorem rank_no (k:Nat) (h:k < 4∨20 < k):rnk k=9:=by
 unfold rnk
 rw[if_neg (by omega),if_neg (by omega),if_neg (by omega),if_neg (by omega),if_neg (by omega),if_neg (by omega),if_neg (by omega),if_neg (by omega),if_neg (by omega)]
theorem K7 (k : Nat) : Fn Tryz.prog 57 [.int .u8 k] (.int .i64 (rnk k)) := by
  rcases (show (k = 4 ∨ k = 5 ∨ k = 6 ∨ k = 7 ∨ k = 8 ∨ k = 9 ∨ k = 10 ∨ k = 11 ∨ k = 12 ∨ k = 13 ∨ k = 14 ∨ k = 15 ∨ k = 16 ∨ k = 17 ∨ k = 18 ∨ k = 19 ∨ k = 20) ∨ (k < 4 ∨ 20 < k) by omega) with (rfl | rfl | rfl | rfl | rfl | rfl | rfl | rfl | rfl | rfl | rfl | rfl | rfl | rfl | rfl | rfl | rfl) | h
  all_goals first
    | (refine Jc c57_ok rfl rfl fun N => ?_
       simp (config := {implicitDefEqProofs := false}) only [c57, go_sem, Ga]
       done)
    | (refine Jc c57_ok rfl rfl fun N => ?_
       simp (config := {implicitDefEqProofs := false}) only [c57, go_sem, Ga]
       rfl)
    | skip
  rw [rank_no k h]
  have hn1 : ∀ m : Nat, 4 ≤ m → m ≤ 20 → ((k : Int) == (m : Int)) = false := fun m h1 h2 => kb (by omega)
  have n4 : ((k : Int) == 4) = false := hn1 4 (by omega) (by omega)
  have n5 : ((k : Int) == 5) = false := hn1 5 (by omega) (by omega)
  have n6 : ((k : Int) == 6) = false := hn1 6 (by omega) (by omega)
  have n7 : ((k : Int) == 7) = false := hn1 7 (by omega) (by omega)
  have n8 : ((k : Int) == 8) = false := hn1 8 (by omega) (by omega)
  have n9 : ((k : Int) == 9) = false := hn1 9 (by omega) (by omega)
  have n10 : ((k : Int) == 10) = false := hn1 10 (by omega) (by omega)
  have n11 : ((k : Int) == 11) = false := hn1 11 (by omega) (by omega)
  have n12 : ((k : Int) == 12) = false := hn1 12 (by omega) (by omega)
  have n13 : ((k : Int) == 13) = false := hn1 13 (by omega) (by omega)
  have n14 : ((k : Int) == 14) = false := hn1 14 (by omega) (by omega)
  have n15 : ((k : Int) == 15) = false := hn1 15 (by omega) (by omega)
  have n16 : ((k : Int) == 16) = false := hn1 16 (by omega) (by omega)
  have n17 : ((k : Int) == 17) = false := hn1 17 (by omega) (by omega)
  have n18 : ((k : Int) == 18) = false := hn1 18 (by omega) (by omega)
  have n19 : ((k : Int) == 19) = false := hn1 19 (by omega) (by omega)
  have n20 : ((k : Int) == 20) = false := hn1 20 (by omega) (by omega)
  refine Jc c57_ok rfl rfl fun N => ?_
  simp (config := {implicitDefEqProofs := false}) only [c57, go_sem, n4, n5, n6, n7, n8, n9, n10, n11, n12, n13, n14, n15, n16, n17, n18, n19, n20]
theorem Xb (k:Nat) (h:4≤k∧k≤17):Fn Tryz.prog 58 [.int .u8 k] (S (sgn k)):=by
 rcases (show k=4∨k=5∨k=6∨k=7∨k=8∨k=9∨k=10∨k=11∨k=12∨k=13∨k=14∨k=15∨k=16∨k=17 by omega) with rfl | rfl | rfl | rfl | rfl | rfl | rfl | rfl | rfl | rfl | rfl | rfl | rfl | rfl
 all_goals
  refine Jc c58_ok rfl rfl fun N=>?_
  simp -implicitDefEqProofs only[c58,go_sem,Ga]
  all_goals rfl
theorem Jdt (k:Nat) (h:21≤k∧k≤24):Fn Tryz.prog 53 [.int .u8 k] (S (wrd k)):=by
 rcases (show k=21∨k=22∨k=23∨k=24 by omega) with rfl | rfl | rfl | rfl
 all_goals
  refine Jc c53_ok rfl rfl fun N=>?_
  simp -implicitDefEqProofs only[c53,go_sem,Ga]
  all_goals rfl
def J3 (t:Tr) (k:Int):Prop:=Fn Tryz.prog 16 [t.cv,.int .i64 k] (S (Ja t.nodes k))
theorem refOperand (t:Tr) (k r:Int) (h0:0≤k) (h1:k < t.nodes.length) (hs:J3 t k) (hl:(Ja t.nodes k).length≤1000000):Fn Tryz.prog 52 [t.cv,.int .i64 k,.int .i64 r] (S (opx (Jb t.nodes) (Ja t.nodes) k r)):=by
 obtain ⟨i,rfl⟩:∃ i:Nat,k=(i:Int):=⟨k.toNat,by omega⟩
 have hlt:i < t.nodes.length:=by omega
 have hg:=Jz hlt
 have hk:Jb t.nodes (i:Int)=(t.nodes.getD i default).k:=by unfold Jb; rw[Int.toNat_natCast]
 unfold J3 at hs
 unfold opx
 rw[hk]
 generalize t.nodes.getD i default=x at hg
 have hR:=K7 x.k
 generalize Ja t.nodes (i:Int)=u at hs hl ⊢
 generalize rnk x.k=v at hR ⊢
 refine Jg c52_ok rfl rfl (by simp only[List.length_cons,List.length_nil]; decide) fun N=>?_
 simp -implicitDefEqProofs only[c52,go_sem,Tr.cv,Tr.row,Je,hg,Nd.cv]
 repeat (refine ⟨by first | omega | decide,?_⟩)
 refine vr_f hR ?_
 by_cases hv:v < r
 ·have d1:(v < r)=True:=eq_true hv
  simp -implicitDefEqProofs only[go_sem,Tr.row,d1,if_true]
  refine vr_f hs ?_
  simp -implicitDefEqProofs only[go_sem]
  exact ⟨by omega,by omega⟩
 ·have d1:(v < r)=False:=eq_false hv
  simp -implicitDefEqProofs only[go_sem,Tr.row,d1,if_false]
  refine vr_f hs ?_
  simp -implicitDefEqProofs only[go_sem]
theorem join_snoc (l:List (List UInt8)) (x sep:List UInt8):Lib.join (l++[x]) sep=if l=[] then x else Lib.join l sep++sep++x:=by
 cases l with
 |nil=>rw[if_pos rfl,List.nil_append,Lib.join_one]
 |cons a l=>
  rw[if_neg (by simp),List.cons_append,Lib.join_cons,Lib.join_cons]
  simp[Lib.joinTail,List.append_assoc]
theorem sumL_take_le {T:Int→List UInt8}(l:List Int) (n:Nat):sumL T (l.take n)≤sumL T l:=by have:=Q8 (T:=T) l n; omega
theorem refTexts (t:Tr) (l:List Int) (a b:UInt8) (hl:∀ k∈l,J3 t k) (hn:l.length≤1000) (hs:sumL (Ja t.nodes) l≤100000000):Fn Tryz.prog 54 [t.cv,.rslc 1 (iz l) none,S [a,b]] (S (Lib.join (l.map (Ja t.nodes)) [a,b])):=by
 have hil:(iz l).length=l.length:=Jo
 refine Jc c54_ok rfl rfl fun N=>?_
 simp -implicitDefEqProofs only[c54,go_sem,Tr.cv,Tr.row]
 refine Jt (id:=0) (z:=2) (els:=[t.row]) rfl rfl ?_
 simp only[go_sem,frzL,frzH,frz,frzO,Tr.row]
 refine JI (I:=fun i:Nat=>i≤l.length) (inv:=fun i=>gp [(1,.rslc 1 (iz l) none),(0,S [a,b]),(0,.rptr t.row),(3,S (Lib.join ((l.take i).map (Ja t.nodes)) [a,b])),(0,.int .i64 (i:Int))] 20) (hp:=fun _=>[.dead]) (μ:=fun i=>l.length-i) 0 (by omega) ?_ rfl ?_
 ·simp[forget,gp,Tr.row,Lib.join_nil]
 ·intro i hi
  by_cases hlt:i < l.length
  ·have d1:((i:Int) < (l.length:Int))=True:=eq_true (by omega)
   have hgi:=JV hlt
   have hmem:l.getD i 0∈l:=by
    rw[List.getD_eq_getElem?_getD,List.getElem?_eq_getElem hlt]; exact List.getElem_mem hlt
   have hT:=hl _ hmem
   have hb1:=Jai (T:=Ja t.nodes) (l.take i) a b
   have hb2:=sumL_take_le (T:=Ja t.nodes) l i
   have hone:=Xm (T:=Ja t.nodes) hlt
   have hts:=join_snoc ((l.take i).map (Ja t.nodes)) (Ja t.nodes (l.getD i 0)) [a,b]
   have htk:(l.take (i+1)).map (Ja t.nodes)=(l.take i).map (Ja t.nodes)++[Ja t.nodes (l.getD i 0)]:=by
    rw[Qk (d:=0) hlt,List.map_append]; rfl
   rw[← htk]at hts
   have hemp:((l.take i).map (Ja t.nodes)=[])↔i=0:=by
    rw[List.map_eq_nil_iff,List.take_eq_nil_iff]
    constructor
    ·rintro (h | h)
     ·exact h
     ·rw[h]at hlt; simp at hlt
    ·exact .inl
   unfold J3 at hT
   generalize l.getD i 0=k at *
   have hj0:i=0→Lib.join ((l.take i).map (Ja t.nodes)) [a,b]=[]:=by rintro rfl; simp[Lib.join_nil]
   generalize hJ:Lib.join ((l.take i).map (Ja t.nodes)) [a,b]=J at *
   generalize Ja t.nodes k=u at *
   by_cases h0:i=0
   ·have d0:((i:Int) > 0)=False:=eq_false (by omega)
    rw[if_pos (hemp.2 h0)]at hts
    have hJ0:=hj0 h0
    subst hJ0
    simp -implicitDefEqProofs only[go_sem,hil,d1,d0,Tr.row]
    refine Jm Jn (by decide) ?_
    simp -implicitDefEqProofs only[go_sem,hil,hgi,Tr.row]
    repeat (refine ⟨by first | omega | decide | exact Jh (by omega) (by omega),?_⟩)
    refine Jr (.inl rfl) hT ?_
    simp -implicitDefEqProofs only[go_sem]
    refine ⟨by omega,Jh (by omega) (by omega),i+1,by omega,by omega,?_⟩
    rw[hts]
    simp[forget,Tr.row]
   ·have d0:((i:Int) > 0)=True:=eq_true (by omega)
    rw[if_neg (fun h=>h0 (hemp.1 h))]at hts
    simp -implicitDefEqProofs only[go_sem,hil,d1,d0,Tr.row]
    repeat (refine ⟨by first | omega | decide | exact Jh (by omega) (by omega),?_⟩)
    refine Jm Jn (by decide) ?_
    simp -implicitDefEqProofs only[go_sem,hil,hgi,Tr.row]
    repeat (refine ⟨by first | omega | decide | exact Jh (by omega) (by omega),?_⟩)
    refine Jr (.inl rfl) hT ?_
    simp -implicitDefEqProofs only[go_sem]
    refine ⟨by omega,Jh (by omega) (by omega),i+1,by omega,by omega,?_⟩
    rw[hts]
    simp[forget,Tr.row]
  ·have hie:i=l.length:=by omega
   subst hie
   have d1:((l.length:Int) < (l.length:Int))=False:=eq_false (by omega)
   rw[List.take_length]
   simp -implicitDefEqProofs only[go_sem,hil,d1]
end Go.Cm
end
end
