/-
  The law ParseParts of package floodgatelaw02 holds, as the given statement ParsePartsCardSaid says it (shortened by a program). Conditions: those of the statement alone.
-/
import Derived.Test.YthbifneaknlfgaaGreatDoorJPkKE
import Derived.Test.YthbifneaknlfgaaGreatDoorJP12
import Derived.Test.YthbifneaknlfgaaGreatDoorJP32
import Derived.Test.YthbifneaknlfgaaGreatDoorRows
import Derived.Test.YthbifneaknlfgaaGreatDoorCards
import Derived.Test.YthbifneaknlfgaaGreatDoorTie
import Derived.Test.YthbifneaknlfgaaGreatDoorJPkCA
set_option linter.unusedSimpArgs false
set_option linter.unusedVariables false
open Bool renaming not_false→Ga,not_true→Gb,true_and→Gh,false_and→Gj
open List renaming length_cons→Gc,length_nil→Gd,map_cons→Gf,map_nil→Gg,length_take→Gi,mem_of_mem_take→Gl
noncomputable section
section
set_option maxRecDepth 100000
set_option maxHeartbeats 40000000
open Go.Proofs
namespace Go.Cm
section
theorem lawValid (t:Tr) (ht:Jav t=false→t.Fit):Fn Tryz.prog 32 [t.cv] (.bool (!Jav t && decide (chk t=0))):=by
 have hV:=JbR t
 cases hv:Jav t with
 |true=>
  rw[hv]at hV
  refine Jc c32_ok rfl rfl fun N=>?_
  repeat first | refine JZ (by assumption) ?_ | refine JO (gok rfl) (by assumption) ?_ | simp -implicitDefEqProofs only[c32,go_sem,Tr.cv,Tr.row,Gb,Gj]
 |false=>
  rw[hv]at hV
  have hR:=JeO t (ht hv)
  have e:(chk t == 0)=decide (chk t=0):=by
   by_cases h:chk t=0 <;> simp[h]
  refine Jc c32_ok rfl rfl fun N=>?_
  repeat first | refine JZ (by assumption) ?_ | refine JO (gok rfl) (by assumption) ?_ | simp -implicitDefEqProofs only[c32,go_sem,Tr.cv,Tr.row,Ga,Gh,e]
def xA (t:Tr):Nat→CV
 |0=>.nils
 |i+1=>.rslc 5 (ndz (preT t (i+1)).nodes) none
def yA (t:Tr):Nat→CV
 |0=>.nils
 |i+1=>.rslc 1 (iz (preT t (i+1)).items) none
theorem wk_xA (t:Tr) (i:Nat):wk (.agg [xA t i,yA t i]) (preT t i).cv:=by
 cases i with
 |zero=>exact XE ⟨wk.nils,wk.nils,trivial⟩
 |succ i=>exact wk.refl _
theorem inT_of {t:Tr}{n:Nat}(hn:n < t.nodes.length):inT t n=true:=Jdh.2 (by omega)
theorem pre_fit {t:Tr}(ht:t.Fit) {i:Nat}(hi:i≤t.items.length):(preT t i).Fit:=by
 have h1:=ht.many
 have h2:=ht.items
 exact ⟨by simp only[preT,Gi]; omega,by simp only[preT,Gi]; omega,fun x hx=>ht.nodes x (Gl hx),fun x hx=>ht.iz x (Gl hx)⟩
section
variable {t:Tr}{o:List Int}(ht:t.Fit) (g:GoodT t o)
include ht g
theorem join_at {i:Nat}(hi:i < t.items.length):Fn Tryz.prog 26 [.agg [xA t i,yA t i],(Jen o t i).cv] (.tup [(preT t (i+1)).cv,.int .i64 0]):=by
 obtain ⟨o1,g1⟩:=pre_good g (Nat.le_of_lt hi)
 obtain ⟨o2,g2⟩:=cut_good g hi
 have hj:=joinJ Jfn (preT t i) (Jen o t i) (pre_fit ht (Nat.le_of_lt hi)) (cutT_fit ht g hi) g1 g2 _ rfl _ rfl
 have h1:=g.many
 have h2:=g.items
 rw[join_pre g hi,if_neg (by simp only[preT,Gi]; omega)]at hj
 exact hj.args ⟨wk_xA t i,wk.refl _,trivial⟩
theorem same_all:Fn Tryz.prog 27 [.agg [xA t t.items.length,yA t t.items.length],t.cv] (.tup [.bool true,.int .i64 0]):=by
 have h:=Q6 t t ht ht
 have hc:chk t=0:=(Kq t).2 ⟨_,g⟩
 rw[if_neg (by simp[hc]),if_neg (by simp[hc])]at h
 have e:Xi t t=true:=by simp[Xi,JbE]
 rw[e]at h
 have hw:=wk_xA t t.items.length
 rw[pre_all g]at hw
 exact h.args ⟨hw,wk.refl _,trivial⟩
theorem alike_all:Fn Tryz.prog 13 [.agg [xA t t.items.length,yA t t.items.length],t.cv] (.bool true):=by
 have hw:=wk_xA t t.items.length
 rw[pre_all g]at hw
 exact (XG t ht).args ⟨hw,wk.refl _,trivial⟩
theorem first_at {n:Nat}(hn:n < t.nodes.length):Fn Tryz.prog 18 [t.cv,.int .i64 (n:Int)] (.tup [.int .i64 (fs o n),.int .i64 0]):=by
 have h1:=g.many
 have h:=parseFirst t ht n (Jm (by omega) (by omega))
 have hc:chk t=0:=(Kq t).2 ⟨_,g⟩
 rw[if_neg (by simp[hc]),if_pos (inT_of hn),g.ord.h]at h
 exact h
theorem parent_at {n:Nat}(hn:n < t.nodes.length):Fn Tryz.prog 17 [t.cv,.int .i64 (n:Int)] (.tup [.int .i64 (parT t n),.int .i64 0]):=by
 have h1:=g.many
 have h:=parseParent t ht n (Jm (by omega) (by omega))
 have hc:chk t=0:=(Kq t).2 ⟨_,g⟩
 rw[if_neg (by simp[hc]),if_pos (inT_of hn)]at h
 exact h
theorem kin_at {n m:Nat}(hnm:n≤m) (hm:m < t.nodes.length) (hf:fs o m≤n):Fn Tryz.prog 19 [t.cv,.int .i64 (n:Int),.int .i64 (m:Int)] (.tup [.int .i64 (m:Int),.int .i64 0]):=by
 have h1:=g.many
 have h:=parseKin t ht n m (Jm (by omega) (by omega)) (Jm (by omega) (by omega))
 have hc:chk t=0:=(Kq t).2 ⟨_,g⟩
 rw[if_neg (by simp[hc]),if_pos (by rw[inT_of (by omega),inT_of hm]; rfl),g.ord.h]at h
 have e:kinF o n m=m:=by
  have hmx:mx (n:Int) (m:Int)=(m:Int):=by unfold mx; split <;> omega
  have hmn:mn (n:Int) (m:Int)=(n:Int):=by unfold mn; split <;> omega
  unfold kinF
  rw[hmx,hmn,Int.toNat_natCast]
  have hg:o[m]? = some (fs o m):=by
   have:m < o.length:=by rw[g.olen]; exact hm
   rw[fs,Int.toNat_natCast,List.getD_eq_getElem?_getD,List.getElem?_eq_getElem this]; rfl
  rw[YV hg,if_pos (by simpa using hf)]
 simp only[e]at h
 exact h
end
theorem partsGood (t : Tr) (ht : t.Fit) {o : List Int} (g : GoodT t o) (hv : Jav t = false) (p : Int) (hp : InR .u8 p) : Fn Tryz.prog 6 [t.cv, .int .u8 p] (.bool true) := by
  have hc0 : chk t = 0 := (Kq t).2 ⟨_, g⟩
  have hV := lawValid t fun _ => ht
  rw [hv, hc0] at hV
  simp only [Ga, decide_true, Gh] at hV
  have hmany := g.many
  have hits := g.items
  have mC := refCopy t ht
  have mK := fknown
  have mS := same_all ht g
  have mA := alike_all ht g
  have e00 : ((0 : Int) != 0) = false := rfl
  have e11 : (((1 : Nat) : Int) != 1) = false := rfl
  have hil : (iz t.items).length = t.items.length := Jn
  have hp2 : 0 ≤ p ∧ p ≤ 255 := ⟨hp.lo, hp.hi⟩
  refine J3 c6_ok rfl rfl (by simp only [Gc, Gd]; decide) fun N0 => ?_
  simp (config := {implicitDefEqProofs := false}) only [c6, go_sem, Tr.cv, Tr.row]
  refine JZ hV ?_
  simp (config := {implicitDefEqProofs := false}) only [go_sem, Tr.row, splice, Gc, Gd, Gb]
  refine Jk (id := 0) (z := 2) (els := [t.row]) rfl rfl ?_
  simp only [go_sem, JcB, Gf, Gg, KR, frz, Qo, Kt, Tr.row]
  refine Xg (I := fun i : Nat => i ≤ t.items.length) (inv := fun i => mkT 250 [(1, .int .u8 p), (2, .rptr t.row), (5, .ptr 1 0 0), (6, .int .i64 (i : Int))]) (hp := fun i => [.dead, .arr 2 [[xA t i, yA t i]]]) (μ := fun i => t.items.length - i) 0 (by omega) (fun Q => ?_) ?_
  · refine Kr (KY ?_)
    simp [XJ, Qr, Tr.row]
  intro i hi
  by_cases hlt : i < t.items.length
  · have d1 : ((i : Int) < (t.items.length : Int)) = True := eq_true (by omega)
    have mJ := join_at ht g hlt
    have mX := parseCutS t ht g i hlt
    have hCl : (iz (Jen o t i).items).length = 1 := by rw [Jn]; rfl
    have hP : ∀ P : Tr, P = preT t (i + 1) → [CObj.dead, .arr 2 [P.row]] = [CObj.dead, .arr 2 [[xA t (i + 1), yA t (i + 1)]]] := fun P h => by rw [h]; rfl
    generalize hPe : preT t (i + 1) = P at mJ
    have hP2 := hP P hPe.symm
    generalize Jen o t i = C at *
    repeat first | refine JZ (by assumption) ?_ | refine JO (gok rfl) (by assumption) ?_ | simp (config := {implicitDefEqProofs := false}) only [go_sem, Tr.cv, Tr.row, splice, Gc, Gd, Gb, Ga, beq_self_eq_true, d1, hil, hCl, e00, e11]
    refine ⟨Jm (by omega) (by omega), i + 1, by omega, by omega, fun Q => JI [0, 1] rfl ?_ ?_⟩
    · simp only [Xk, Gf, Gg, ren, JH]
      refine KY ?_
      simp [XJ, Qr, Tr.row, ren, JH]
    · rw [← hP2]
      simp only [QH, Gf, Gg, go_sem, JB, JN]
      rfl
  · have hie : i = t.items.length := by omega
    subst hie
    have d1 : ((t.items.length : Int) < (t.items.length : Int)) = False := eq_false (by omega)
    generalize xA t t.items.length = X at *
    generalize yA t t.items.length = Y at *
    simp (config := {implicitDefEqProofs := false}) only [go_sem, Tr.row, d1, hil]
    refine Xh [true, false, false, false, false, false, false, false, false] JF (by decide +kernel) ?_
    simp (config := {implicitDefEqProofs := false}) only [go_sem, Tr.row]
    refine vh_f mC ?_
    simp (config := {implicitDefEqProofs := false}) only [go_sem, Tr.cv, Tr.row]
    refine vh_f mS ?_
    simp (config := {implicitDefEqProofs := false}) only [go_sem, Tr.cv, Tr.row, e00, Gb]
    refine JO (gok rfl) mA ?_
    by_cases hn0 : t.nodes.length = 0
    · have d2 : ((t.nodes.length : Int) == 0) = true := by simp [hn0]
      repeat first | refine JZ (by assumption) ?_ | refine JO (gok rfl) (by assumption) ?_ | simp (config := {implicitDefEqProofs := false}) only [go_sem, Tr.cv, Tr.row, splice, Gc, Gd, Gb, Ga, beq_self_eq_true, d2, Ja]
    · have d2 : ((t.nodes.length : Int) == 0) = false := by simp [hn0]
      obtain ⟨N, hN, hNl⟩ : ∃ N : Nat, (p * 5).tmod (t.nodes.length : Int) = (N : Int) ∧ N < t.nodes.length := by
        have h1 : 0 ≤ (p * 5).tmod (t.nodes.length : Int) := Int.tmod_nonneg _ (by omega)
        have h2 : (p * 5).tmod (t.nodes.length : Int) < t.nodes.length := Int.tmod_lt_of_pos _ (by omega)
        exact ⟨((p * 5).tmod (t.nodes.length : Int)).toNat, by omega, by omega⟩
      have hFN := JdK g.ord.ok (i := (N : Int)) (by omega) (by rw [g.olen]; omega)
      obtain ⟨F, hF⟩ : ∃ F : Nat, fs o N = (F : Int) := ⟨(fs o N).toNat, by omega⟩
      have m1 := first_at ht g hNl
      rw [hF] at m1 hFN
      have m2 := parent_at ht g hNl
      have m3 := kin_at ht g (Nat.le_refl N) hNl (by rw [hF]; exact hFN.2)
      have c1 : ((F : Int) < 0) = False := eq_false (by omega)
      have c2 : ((F : Int) > (N : Int)) = False := eq_false (by omega)
      have c3 : ((N : Int) != (N : Int)) = false := by simp
      have hU := par_spec g hNl
      have hpar : ∀ n : Nat, n < t.nodes.length → Fn Tryz.prog 17 [t.cv, .int .i64 (n : Int)] (.tup [.int .i64 (parT t n), .int .i64 0]) := fun n hn => parent_at ht g hn
      have hstep : ∀ n : Nat, n < N → (parT t n = -1 ∨ ∃ m : Nat, parT t n = (m : Int) ∧ n < m ∧ m < t.nodes.length) ∧ (((F : Int) ≤ n) ↔ ((F : Int) ≤ parT t n ∧ parT t n ≤ N)) := fun n hn => by rw [← hF]; exact par_step g hNl hn
      clear mA mS hV
      rcases hU with ⟨hU, _⟩ | ⟨U, hU, hU1, hU2, hU3⟩
      case' inl =>
        rw [hU] at m2
        have u1 : ((-1 : Int) ≤ (N : Int)) = True := eq_true (by omega)
        have u2 : ((-1 : Int) != -1) = false := rfl
        have u3 : ((-1 : Int) ≥ (t.nodes.length : Int)) = False := eq_false (by omega)
        have u4 : ((-1 : Int) ≥ 0) = False := eq_false (by omega)
        repeat first | refine JZ (by assumption) ?_ | refine JO (gok rfl) (by assumption) ?_ | refine And.intro (by first | omega | exact Jm (by omega) (by omega)) ?_ | simp (config := {implicitDefEqProofs := false}) only [go_sem, Tr.cv, Tr.row, splice, Ja, Gc, Gd, Gb, Ga, beq_self_eq_true, d2, hN, e00, c1, c2, c3, u1, u2, u3, u4]
      case' inr =>
        rw [hU] at m2
        have hUf := g.ord.kid_rng (J5 hU2) hU3
        have m4 := kin_at ht g (Nat.le_of_lt hU1) hU2 (by omega)
        have m5 := first_at ht g hU2
        rw [hF] at hUf
        have u1 : ((U : Int) ≤ (N : Int)) = False := eq_false (by omega)
        have u3 : ((U : Int) ≥ (t.nodes.length : Int)) = False := eq_false (by omega)
        have u4 : ((U : Int) ≥ 0) = True := eq_true (by omega)
        have u5 : (fs o U > (F : Int)) = False := eq_false (by omega)
        have u6 : ((U : Int) != (U : Int)) = false := by simp
        repeat first | refine JZ (by assumption) ?_ | refine JO (gok rfl) (by assumption) ?_ | refine And.intro (by first | omega | exact Jm (by omega) (by omega)) ?_ | simp (config := {implicitDefEqProofs := false}) only [go_sem, Tr.cv, Tr.row, splice, Ja, Gc, Gd, Gb, Ga, beq_self_eq_true, d2, hN, e00, c1, c2, c3, u1, u3, u4, u5, u6]
      all_goals
        refine Xg (I := fun i : Nat => i ≤ t.nodes.length + 8) (inv := fun i => mkT 250 [(2, .rptr t.row), (13, .int .i64 (N : Int)), (14, .int .i64 (F : Int)), (24, .int .i64 (i : Int))]) (hp := fun _ => [.dead]) (μ := fun i => t.nodes.length + 8 - i) 0 (by omega) (fun Q => JI [0] rfl ?_ ?_) ?_
        · simp only [Xk, Gf, Gg, ren, JH]
          refine KY ?_
          simp [XJ, Qr, Tr.row, ren, JH]
        · simp only [QH, Gf, Gg, go_sem, JB, JN]
        intro i hi
        by_cases hlt : i < t.nodes.length
        · have d1 : ((i : Int) < (t.nodes.length : Int)) = True := eq_true (by omega)
          simp (config := {implicitDefEqProofs := false}) only [go_sem, Tr.row, Ja, d1]
          refine Xg (I := fun n : Int => -1 ≤ n ∧ n < t.nodes.length ∧ (((F : Int) ≤ i ∧ (i : Int) ≤ N) ↔ ((F : Int) ≤ n ∧ n ≤ N))) (inv := fun n => mkT 250 [(2, .rptr t.row), (13, .int .i64 (N : Int)), (14, .int .i64 (F : Int)), (24, .int .i64 (i : Int)), (25, .int .i64 n)]) (hp := fun _ => [.dead]) (μ := fun n => if n < 0 then 0 else ((t.nodes.length : Int) - n).toNat) (i : Int) ⟨by omega, by omega, Iff.rfl⟩ (fun Q => JI [0] rfl ?_ rfl) ?_
          · simp only [Xk, Gf, Gg, ren, JH]
            refine KY ?_
            simp [XJ, Qr, Tr.row, ren, JH]
          rintro n ⟨hn1, hn2, hn3⟩
          by_cases hgo : 0 ≤ n ∧ n < N
          · obtain ⟨k, rfl⟩ : ∃ k : Nat, n = (k : Int) := ⟨n.toNat, by omega⟩
            have m6 := hpar k (by omega)
            obtain ⟨s1, s2⟩ := hstep k (by omega)
            have v1 : ((k : Int) ≥ 0) = True := eq_true (by omega)
            have v2 : ((k : Int) < (N : Int)) = True := eq_true (by omega)
            have hmu : ¬ ((k : Int) < 0) := by omega
            rcases s1 with s1 | ⟨m, s1, s3, s4⟩
            · rw [s1] at m6 s2
              have v3 : ((-1 : Int) ≥ 0) = False := eq_false (by omega)
              repeat first | refine JZ (by assumption) ?_ | refine JO (gok rfl) (by assumption) ?_ | refine And.intro (by first | omega | exact Jm (by omega) (by omega)) ?_ | simp (config := {implicitDefEqProofs := false}) only [go_sem, Tr.cv, Tr.row, splice, Ja, Gc, Gd, Gb, Ga, beq_self_eq_true, v1, v2, v3, e00]
              refine ⟨-1, ⟨by omega, by omega, by omega⟩, by rw [if_neg hmu, if_pos (by omega)]; omega, fun Q => JI [0] rfl ?_ rfl⟩
              simp only [Xk, Gf, Gg, ren, JH]
              refine KY ?_
              simp [XJ, Qr, Tr.row, ren, JH]
            · rw [s1] at m6 s2
              have v3 : ((m : Int) ≥ 0) = True := eq_true (by omega)
              have v4 : ((m : Int) ≤ (k : Int)) = False := eq_false (by omega)
              repeat first | refine JZ (by assumption) ?_ | refine JO (gok rfl) (by assumption) ?_ | refine And.intro (by first | omega | exact Jm (by omega) (by omega)) ?_ | simp (config := {implicitDefEqProofs := false}) only [go_sem, Tr.cv, Tr.row, splice, Ja, Gc, Gd, Gb, Ga, beq_self_eq_true, v1, v2, v3, v4, e00]
              refine ⟨(m : Int), ⟨by omega, by omega, by omega⟩, by rw [if_neg hmu, if_neg (by omega)]; omega, fun Q => JI [0] rfl ?_ rfl⟩
              simp only [Xk, Gf, Gg, ren, JH]
              refine KY ?_
              simp [XJ, Qr, Tr.row, ren, JH]
          · have w2 : n < (N : Int) → n < 0 := fun h => by omega
            have w3 : (n == (N : Int)) = (decide ((F : Int) ≤ i) && decide ((i : Int) ≤ N)) := by
              rw [Bool.eq_iff_iff]
              simp only [beq_iff_eq, Bool.and_eq_true, decide_eq_true_eq]
              omega
            by_cases q0 : 0 ≤ n <;> by_cases q1 : (F : Int) ≤ i <;> by_cases q2 : (i : Int) ≤ N <;> by_cases q3 : (F : Int) < i <;> by_cases q4 : (i : Int) < N - 20 <;> first
              | (exfalso; omega)
              | (have w4 : ¬ (0 ≤ n ∧ n < (N : Int)) := hgo
                 have w5 : 0 ≤ n → (n < (N : Int)) = False := fun h => eq_false (by omega)
                 repeat first | refine JZ (by assumption) ?_ | refine JO (gok rfl) (by assumption) ?_ | refine And.intro (by first | omega | exact Jm (by omega) (by omega)) ?_ | simp (config := {implicitDefEqProofs := false}) only [go_sem, Tr.cv, Tr.row, splice, Ja, Gc, Gd, Gb, Ga, beq_self_eq_true, ge_iff_le, gt_iff_lt, q0, q1, q2, q3, q4, w3, w5, bne_self_eq_false, Bool.and_true, Bool.and_false, Gh, Gj, decide_true, decide_false]
                 by_cases hq : (F : Int) < i ∧ (i : Int) < N - 20
                 · first
                   | (exfalso; omega)
                   | exact ⟨i + 8, by omega, by omega, fun Q => JI [0] rfl (by simp only [Xk, Gf, Gg, ren, JH]; refine KY ?_; simp [XJ, Qr, Tr.row, ren, JH]; omega) rfl⟩
                 · first
                   | (exfalso; omega)
                   | exact ⟨i + 1, by omega, by omega, fun Q => JI [0] rfl (by simp only [Xk, Gf, Gg, ren, JH]; refine KY ?_; simp [XJ, Qr, Tr.row, ren, JH]) rfl⟩)
        · have d1 : ((i : Int) < (t.nodes.length : Int)) = False := eq_false (by omega)
          repeat first | refine JZ (by assumption) ?_ | refine JO (gok rfl) (by assumption) ?_ | refine And.intro (by first | omega | exact Jm (by omega) (by omega)) ?_ | simp (config := {implicitDefEqProofs := false}) only [go_sem, Tr.cv, Tr.row, splice, Ja, Gc, Gd, Gb, Ga, beq_self_eq_true, d1]
theorem partsAll (t:Tr) (ht:t.Ty) (p:Int) (hp:InR .u8 p):Fn Tryz.prog 6 [t.cv,.int .u8 p] (.bool true):=by
 by_cases h:Jav t=false∧chk t=0
 ·obtain ⟨o,g⟩:=(Kq t).1 h.2
  exact partsGood t (ht.fit h.1) g h.1 p hp
 ·have hV:=lawValid t ht.fit
  have e:(!Jav t && decide (chk t=0))=false:=by
   cases hv:Jav t with
   |true=>rfl
   |false=>
    have:¬ chk t=0:=fun hc=>h ⟨hv,hc⟩
    simp[this]
  rw[e]at hV
  have mK:=fknown
  refine J3 c6_ok rfl rfl (by simp only[Gc,Gd]; decide) fun N=>?_
  repeat first | refine JZ (by assumption) ?_ | refine JO (gok rfl) (by assumption) ?_ | simp -implicitDefEqProofs only[c6,go_sem,Tr.cv,Tr.row,Ga]
end
end Go.Cm
end
section
open Go.Proofs
open Go.Cm Go.ChangeShapes Go.WideShapes Go.RowKit
namespace Go.Proofs.YthbifneaknlfgaaGreatDoor
theorem JdN (os:Os) (args:Array Value):laidMetH Tryz.prog Rows.parsePartsRow.laid ((World.doorLaid Tryz.prog 400 os).forCall (fun _ _=>0) ⟨#[],args,[]⟩).memory:=
 laidMetH_of_parts3 (fuel:=8) (laidMet_of_run' 8 (by kernel_rfl) (by kernel_rfl)) (by kernel_rfl) (by kernel_rfl)
theorem gl_parts {W:World}(hsh:W.ShapedOpen Tryz.prog) (hL:laidMetH Tryz.prog Rows.parsePartsRow.laid W):GLw W:=
 gl_of (rt:=[]) (rs:=[]) hsh hL (by kernel_rfl) (.tail _ (.tail _ (.head _))) (.tail _ (.tail _ (.tail _ (.head _)))) (.tail _ (.tail _ (.tail _ (.tail _ (.head _)))))
set_option maxRecDepth 100000 in
theorem lifted_parts (os:Os) (started:os.Started) (H:Type) (enc:TypeId×Value→H) :
  ReturnsInHanded {} Tryz.checked os 6 .any (fun w args=>(Rows.parsePartsSpec.pre enc Tryz.prog Tryz.f6 [] false w args∧laidMetH Tryz.prog Rows.parsePartsRow.laid w)∧sizedMet enc Tryz.prog Tryz.f6 (OpenSpec.ofChange Rows.parsePartsSpec) false w args)
   (Rows.parsePartsSpec.post enc Tryz.prog Tryz.f6 false true false false):=by
 refine Jbo (C:=Tryz.checked) (X:=fun w=>laidMetH Tryz.prog Rows.parsePartsRow.laid w) (fun _ _ hh h=>h.of_heap hh) ownK started (by kernel_rfl) Tryz.func6
  (ChangeSpec.witness_shaped (enc:=enc) (C:=Tryz.checked) (os:=os) (X:=fun w _=>laidMetH Tryz.prog Rows.parsePartsRow.laid w) false (World.doorLaid Tryz.prog 400 os) #[.agg #[.slice none 0 0,.slice none 0 0],.int .u8 0] 8 rfl (World.shaped_of_RefB (by kernel_rfl) (by kernel_rfl)) (by kernel_rfl) (by kernel_rfl) (by kernel_rfl) (JdN os _)) ?_
 intro W base args ds gs before hval hW hX hsh
 refine Jb7 (bt:=4) (d:=6) ty_laid ty_maps ty_full Tryz.underlying4 (by kernel_rfl) rfl (fun ds hds=>?_) (by kernel_rfl) (fun l hl=>?_) W base args ds gs before hval hW (gl_parts hsh hX)
 ·rw[Tryz.params6]at hds
  match ds,hds with
  |[a,b],_=>exact ⟨rfl,rfl,rfl⟩
 ·rw[Tryz.params6]at hl
  obtain ⟨c0,l0,rfl,h0,c1,l1,rfl,h1,rfl⟩:=hl
  obtain ⟨t,rfl,ht⟩:=tree_of (d:=1) h0
  obtain ⟨x,rfl,hx⟩:=top_int Tryz.underlying5 h1
  exact partsAll t ht x hx
theorem parseParts_holds:Rows.ParsePartsSaid:=
 OpenClaim.holds_of_wide 6 Tryz.f6 rfl rfl rfl rfl rfl rfl rfl ⟨rfl,rfl,rfl,rfl,rfl⟩ rfl rfl rfl rfl rfl (by kernel_rfl) Tryz.func6 (by kernel_rfl)
  (of_decide_eq_true (by kernel_rfl)) (by unfold Func.isWrapper; first | (rw[if_pos (by decide +kernel)]; kernel_rfl) | (rw[if_neg (by decide +kernel)]; exact ⟨rfl,rfl⟩))
  (fun os started H enc _=>lifted_parts os started H enc)
theorem parseParts_card_holds:Rows.ParsePartsCardSaid:=
 Claim7.holds_tied_plain_at .later [] [.data,.data,.data,.sentinel,.sentinel] true Rows.parsePartsCard.stood.harness true
  parseParts_holds (fun _ h=>by cases h) (by kernel_rfl) (fun _ h=>by cases h) parseParts_row_tie rfl ⟨rfl,rfl⟩ (by kernel_rfl) rfl
  (fun f fn hf hfn=>by
   obtain rfl:f=6:=Option.some.inj ((show Tryz.prog.funcNamed "floodgate/floodgatelaw02.ParseParts" = some 6 by kernel_rfl).symm.trans hf) |>.symm
   obtain rfl:fn=Tryz.f6:=(Option.some.inj (Tryz.func6.symm.trans hfn)).symm
   exact ⟨by kernel_rfl,fun j t ht=>by
    rw[Tryz.params6]at ht
    have hm:t∈[25,5]:=by simpa using Array.mem_of_getElem? ht
    have hall:([25,5].all fun u=>!Tryz.prog.wantsStandIn u)=true:=by kernel_rfl
    exact (show Tryz.prog.wantsStandIn t=false by simpa using List.all_eq_true.1 hall t hm)⟩)
  (by kernel_rfl)
#print axioms parseParts_card_holds
end Go.Proofs.YthbifneaknlfgaaGreatDoor
end
end
