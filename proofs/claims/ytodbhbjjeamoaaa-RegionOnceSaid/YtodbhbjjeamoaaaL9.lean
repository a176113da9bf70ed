/-
  Parts of arrays: the statements RegionCells and RegionSizes, their code. Conditions: none.
  Parts of arrays: the statements RegionEnds and RegionLeast, their code. Conditions: none.
  Parts of arrays: the statement RegionOnce, its code. Conditions: none.
  THE STATEMENT RegionOnce: for every input the law returns true, and its arguments read as before. Conditions: none.
-/
import Derived.Test.YtodbhbjjeamoaaaPt2
import Derived.Test.YtodbhbjjeamoaaaRows
import Derived.WalkKit
import Derived.ProofKit
set_option linter.unusedSimpArgs false
set_option linter.unusedVariables false

section
open Go.Proofs
namespace Go.Cm

theorem one_ok (p : Pt) : ptsOk [p] = p.ok := by simp [ptsOk]

set_option maxHeartbeats 4000000 in
set_option maxRecDepth 100000 in
theorem law6 (p : Pt) (n : Int) : Fn Try.prog 6 [.agg p.cv, .int .i64 n] (.bool true) := by
  refine fn_of_code c6_ok rfl rfl fun N => ?_
  have p1 := s27 p n
  by_cases hv : p.ok = true
  · by_cases hz : isSz n = true
    · have hz2 : 0 ≤ n ∧ n ≤ 100 := by simpa [isSz] using hz
      have z1 : ¬ n < 0 := by omega
      have z2 : ¬ 100 < n := by omega
      have hsm := small_of hv hz
      rw [if_pos hv, if_pos hz] at p1
      simp only [c6, go_sem, Pt.cv]
      refine vr_f p1 ?_
      simp only [go_sem, Pt.cv]
      refine vr_freeze (id := 1) (z := 5) (els := [p].map Pt.cv) rfl rfl ?_
      simp only [go_sem, frzL, frzH, frz, frzO, Pt.cv]
      refine vr_f (s17 [p] none (by simp)) ?_
      rw [one_ok, hv]
      simp only [go_sem, z1, z2]
      refine vr_fg (gok rfl) (s29 p n hsm) ?_
      simp only [go_sem]
      refine vr_fg (gok rfl) (s28 _ none none (by rw [cells_length]; have := count_le hsm; omega)) ?_
      simp only [go_sem]
      refine vr_fg (gok rfl) s12 ?_
      simp only [go_sem]
    · have hz2 : ¬ (0 ≤ n ∧ n ≤ 100) := by simpa [isSz] using hz
      rw [if_pos hv, if_neg hz] at p1
      have hD : (decide (n < 0) = false ∧ decide (100 < n) = true) ∨ (decide (n < 0) = true ∧ decide (100 < n) = false) := by
        simp only [decide_eq_false_iff_not, decide_eq_true_eq]; omega
      rcases hD with ⟨z1, z2⟩ | ⟨z1, z2⟩
      all_goals
        simp only [c6, go_sem, Pt.cv]
        refine vr_f p1 ?_
        simp only [go_sem, Pt.cv]
        refine vr_freeze (id := 1) (z := 5) (els := [p].map Pt.cv) rfl rfl ?_
        simp only [go_sem, frzL, frzH, frz, frzO, Pt.cv]
        refine vr_f (s17 [p] none (by simp)) ?_
        rw [one_ok, hv]
        simp only [go_sem, z1, z2]
        refine vr_fg (gok rfl) s12 ?_
        simp only [go_sem]
  · have hv2 : p.ok = false := by simpa using hv
    rw [if_neg hv] at p1
    simp only [c6, go_sem, Pt.cv]
    refine vr_f p1 ?_
    simp only [go_sem, Pt.cv]
    refine vr_freeze (id := 1) (z := 5) (els := [p].map Pt.cv) rfl rfl ?_
    simp only [go_sem, frzL, frzH, frz, frzO, Pt.cv]
    refine vr_f (s17 [p] none (by simp)) ?_
    rw [one_ok, hv2]
    simp only [go_sem]
    refine vr_fg (gok rfl) s12 ?_
    simp only [go_sem]

theorem lst_dn (l : List Pt) : ∀ (j : Nat) (a : Int), (j : Int) ≤ a → (szs l j).reverse.foldl (fun a x => if x = a - 1 then x else a) a = if a = j then (dn l j : Int) else a
  | 0, a, _ => by
    have : szs l 0 = [] := rfl
    rw [this]
    simp only [List.reverse_nil, List.foldl_nil]
    split
    · rename_i h; rw [h]; rfl
    · rfl
  | j + 1, a, ha => by
    rw [szs_succ, List.reverse_append, List.foldl_append, dn_succ]
    by_cases hE : (allM l (j : Nat)).isEmpty = true
    · rw [if_pos hE, if_pos hE]
      simp only [List.reverse_cons, List.reverse_nil, List.nil_append, List.foldl_cons, List.foldl_nil]
      by_cases h1 : (j : Int) = a - 1
      · rw [if_pos h1, lst_dn l j _ (Int.le_refl _), if_pos rfl, if_pos (by omega)]
      · rw [if_neg h1, lst_dn l j a (by omega), if_neg (by omega), if_neg (by omega)]
    · rw [if_neg hE, if_neg hE]
      simp only [List.reverse_nil, List.foldl_nil]
      rw [lst_dn l j a (by omega), if_neg (by omega)]
      split
      · rename_i h; rw [h]
      · rfl

theorem least_dn (l : List Pt) : leastOf l = (dn l 101 : Int) := by
  unfold leastOf lstF
  rw [lst_dn l 101 101 (by omega)]; rfl

theorem filt_len (l : List Pt) (q : Pt → Bool) : (l.filter q).length ≤ l.length := List.length_filter_le _ _

/-- How long a row is that the statements look at: by two questions. -/
theorem look (l : List Pt) (h : ¬ (6 < l.length ∧ l.length ≤ 12)) : (decide ((6 : Int) < (l.length : Nat)) = false ∧ decide (((l.length : Nat) : Int) ≤ 12) = true) ∨ (decide ((6 : Int) < (l.length : Nat)) = true ∧ decide (((l.length : Nat) : Int) ≤ 12) = false) := by
  simp only [decide_eq_false_iff_not, decide_eq_true_eq]; omega

set_option maxHeartbeats 4000000 in
set_option maxRecDepth 100000 in
theorem law10 (l : List Pt) (cap : Option Nat) : Fn Try.prog 10 [.rslc 5 (l.map Pt.cv) cap] (.bool true) := by
  refine fn_of_code c10_ok rfl rfl fun N => ?_
  by_cases hA : 6 < l.length ∧ l.length ≤ 12
  · have a1 : (6 : Int) < (l.length : Nat) := by omega
    have a2 : ((l.length : Nat) : Int) ≤ 12 := by omega
    simp only [c10, go_sem, List.length_map, a1, a2]
    refine vr_f s12 ?_
    simp only [go_sem]
  by_cases hB : 24 < l.length
  · have a1 : (6 : Int) < (l.length : Nat) := by omega
    have a2 : ¬ ((l.length : Nat) : Int) ≤ 12 := by omega
    have a3 : (24 : Int) < (l.length : Nat) := by omega
    simp only [c10, go_sem, List.length_map, a1, a2, a3]
    refine vr_f s12 ?_
    simp only [go_sem]
  have a3 : ¬ (24 : Int) < (l.length : Nat) := by omega
  have hlen : l.length ≤ 1000 := by omega
  have hC := look l hA
  have p1 := s23 l none hlen
  have p2 := s22 l none hlen
  have p3 := s30 l hlen
  have hd := dn_le l 101
  rw [least_dn] at p2
  by_cases hv : ptsOk l = true
  · rw [if_pos hv] at p1 p2 p3
    by_cases h101 : dn l 101 = 101
    · have hz : isSz (dn l 101 : Nat) = false := by rw [h101]; rfl
      rw [if_neg (by rw [hz]; simp)] at p2
      have p4 := s33 l cap hv hlen
      rw [if_pos h101] at p4
      rcases hC with ⟨e1, e2⟩ | ⟨e1, e2⟩
      all_goals
        simp only [c10, go_sem, List.length_map, a3, e1, e2]
        refine vr_f (s13 l cap hlen) ?_
        simp only [go_sem]
        refine vr_f p1 ?_
        simp only [go_sem]
        refine vr_f p2 ?_
        simp only [go_sem]
        refine vr_f p3 ?_
        simp only [go_sem]
        refine vr_f (s16 l none cap hlen) ?_
        simp only [go_sem]
        refine vr_f (s17 l cap hlen) ?_
        simp only [go_sem, hv]
        refine vr_fg (gok rfl) (s31 l cap hv hlen) ?_
        simp only [go_sem]
        refine vr_fg (gok rfl) (s28 _ none none (by have := szs_len l 101; omega)) ?_
        simp only [go_sem]
        refine vr_fg (gok rfl) (s32 l cap hv hlen) ?_
        simp only [go_sem]
        refine vr_fg (gok rfl) (s16 _ none none (by have := filt_len l (fun p => !emp p 101); omega)) ?_
        simp only [go_sem]
        refine vr_f p4 ?_
        simp only [go_sem]
        refine vr_fg (gok rfl) s12 ?_
        simp only [go_sem]
    · have hz : isSz (dn l 101 : Nat) = true := by simp [isSz]; omega
      rw [if_pos hz] at p2
      have p4 := s33 l cap hv hlen
      rw [if_neg h101] at p4
      have hp : (0 : Int) ≤ (dn l 101 : Nat) := by omega
      rcases hC with ⟨e1, e2⟩ | ⟨e1, e2⟩
      all_goals
        simp only [c10, go_sem, List.length_map, a3, e1, e2]
        refine vr_f (s13 l cap hlen) ?_
        simp only [go_sem]
        refine vr_f p1 ?_
        simp only [go_sem]
        refine vr_f p2 ?_
        simp only [go_sem]
        refine vr_f p3 ?_
        simp only [go_sem]
        refine vr_f (s16 l none cap hlen) ?_
        simp only [go_sem]
        refine vr_f (s17 l cap hlen) ?_
        simp only [go_sem, hv]
        refine vr_fg (gok rfl) (s31 l cap hv hlen) ?_
        simp only [go_sem]
        refine vr_fg (gok rfl) (s28 _ none none (by have := szs_len l 101; omega)) ?_
        simp only [go_sem]
        refine vr_fg (gok rfl) (s32 l cap hv hlen) ?_
        simp only [go_sem]
        refine vr_fg (gok rfl) (s16 _ none none (by have := filt_len l (fun p => !emp p 101); omega)) ?_
        simp only [go_sem]
        refine vr_f p4 ?_
        simp only [go_sem, hp]
        refine vr_fg (gok rfl) s12 ?_
        simp only [go_sem]
  · have hv2 : ptsOk l = false := by simpa using hv
    rw [if_neg hv] at p1 p2 p3
    rcases hC with ⟨e1, e2⟩ | ⟨e1, e2⟩
    all_goals
      simp only [c10, go_sem, List.length_map, a3, e1, e2]
      refine vr_f (s13 l cap hlen) ?_
      simp only [go_sem]
      refine vr_f p1 ?_
      simp only [go_sem]
      refine vr_f p2 ?_
      simp only [go_sem]
      refine vr_f p3 ?_
      simp only [go_sem]
      refine vr_f (s16 l none cap hlen) ?_
      simp only [go_sem]
      refine vr_f (s17 l cap hlen) ?_
      simp only [go_sem, hv2]
      refine ⟨inr64 (by omega) (by omega), ?_⟩
      refine vr_fg (gok rfl) s12 ?_
      simp only [go_sem]

end Go.Cm
end

section
open Go.Proofs
namespace Go.Cm

theorem inr_u8 {x : Int} (h : InR .u8 x) : 0 ≤ x ∧ x ≤ 255 := ⟨h.lo, h.hi⟩

def endP (n m by' : Int) : Pt := ⟨false, n, true, m, by'⟩

theorem end_count (n m s k : Int) : (endP n m s).count k = ((k - m - n + s) / s).toNat := rfl

theorem end_more {n m s k : Int} (hs : 1 ≤ s) (h : (endP n m s).count k ≠ 0) : (endP n m s).count (k + s) = (endP n m s).count k + 1 := by
  rw [end_count] at h ⊢
  rw [end_count]
  have e : k + s - m - n + s = (k - m - n + s) + 1 * s := by omega
  rw [e, Int.add_mul_ediv_right _ _ (by omega)]
  omega

theorem end_same (n m s k : Int) : (endP n m s).count k = (endP m n s).count k := by
  rw [end_count, end_count]; congr 2; omega

theorem end_ok {n m s : Int} (hn : 0 ≤ n ∧ n ≤ 100) (hm : 0 ≤ m ∧ m ≤ 100) (hs : 1 ≤ s ∧ s ≤ 9) : (endP n m s).ok = true := by
  have : (endP n m s).ok = ((decide (1 ≤ s) && decide (s ≤ 9)) && isSz n && isSz m) := rfl
  rw [this]
  simp [isSz, hn, hm, hs]

set_option maxHeartbeats 4000000 in
set_option maxRecDepth 100000 in
theorem law8 (a b c : Int) (ha : InR .u8 a) (hb : InR .u8 b) (hc : InR .u8 c) : Fn Try.prog 8 [.int .u8 a, .int .u8 b, .int .u8 c] (.bool true) := by
  refine fn_of_code c8_ok rfl rfl fun N => ?_
  have ha := inr_u8 ha
  have hb := inr_u8 hb
  have hc := inr_u8 hc
  obtain ⟨n, hn⟩ : ∃ n, a.tmod 101 = n := ⟨_, rfl⟩
  obtain ⟨m, hm⟩ : ∃ n, b.tmod 101 = n := ⟨_, rfl⟩
  obtain ⟨r, hr⟩ : ∃ n, c.tmod 9 = n := ⟨_, rfl⟩
  have hn2 : 0 ≤ n ∧ n ≤ 100 := by rw [← hn, Int.tmod_eq_emod_of_nonneg ha.1]; omega
  have hm2 : 0 ≤ m ∧ m ≤ 100 := by rw [← hm, Int.tmod_eq_emod_of_nonneg hb.1]; omega
  have hr2 : 0 ≤ r ∧ r ≤ 8 := by rw [← hr, Int.tmod_eq_emod_of_nonneg hc.1]; omega
  have hokp : (endP n m (r + 1)).ok = true := end_ok hn2 hm2 (by omega)
  have hokq : (endP m n (r + 1)).ok = true := end_ok hm2 hn2 (by omega)
  simp only [c8, go_sem, hn, hm, hr]
  refine ⟨inr64 (by omega) (by omega), by omega, inr64 (by omega) (by omega), by omega, inr64 (by omega) (by omega), by omega, inr64 (by omega) (by omega), ?_⟩
  refine vr_loop (I := fun k : Nat => k ≤ 101) (inv := fun k => gp [(9, .int .i64 (r + 1)), (0, .ptr 0 0 0), (0, .ptr 1 0 0), (0, .int .i64 k)] 85) (hp := fun _ => [.arr 5 [[.bool false, .int .i64 n, .bool true, .int .i64 m, .int .i64 (r + 1)]], .arr 5 [[.bool false, .int .i64 m, .bool true, .int .i64 n, .int .i64 (r + 1)]]]) (μ := fun k => 101 - k) 0 (by omega) ?_ rfl ?_
  · simp [forget, gp]
  · intro k hk
    simp only [go_sem]
    refine ⟨fun h5 => ?_, fun h5 => ?_⟩
    · have hz : isSz (k : Nat) = true := by simp [isSz]; omega
      have p1 := s27 (endP n m (r + 1)) k
      have p2 := s27 (endP m n (r + 1)) k
      rw [if_pos hokp, if_pos hz] at p1
      rw [if_pos hokq, if_pos hz] at p2
      have hl1 : (ints ((endP n m (r + 1)).cells k)).length = (endP n m (r + 1)).count k := by rw [ints_len, cells_length]
      have hl2 : (ints ((endP m n (r + 1)).cells k)).length = (endP n m (r + 1)).count k := by rw [ints_len, cells_length, end_same]
      have hcn := count_le (small_of (p := endP n m (r + 1)) (n := k) hokp hz)
      refine vr_f p1 ?_
      simp only [go_sem]
      refine vr_f p2 ?_
      by_cases hbig : (100 : Int) < k + (r + 1)
      · simp only [go_sem, hl1, hl2, hbig]
        exact ⟨inr64 (by omega) (by omega), inr64 (by omega) (by omega), k + 1, by omega, by omega, by simp [forget]⟩
      · by_cases h0 : (endP n m (r + 1)).count k = 0
        · simp only [go_sem, hl1, hl2, hbig, h0]
          exact ⟨inr64 (by omega) (by omega), inr64 (by omega) (by omega), k + 1, by omega, by omega, by simp [forget]⟩
        · have h1 : ((((endP n m (r + 1)).count k : Nat) : Int) == 0) = false := by simp; omega
          simp only [go_sem, hl1, hl2, hbig, h1]
          refine ⟨inr64 (by omega) (by omega), inr64 (by omega) (by omega), ?_⟩
          have hz3 : isSz (k + (r + 1)) = true := by simp only [isSz, Bool.and_eq_true, decide_eq_true_eq]; omega
          have p3 := s27 (endP n m (r + 1)) (k + (r + 1))
          rw [if_pos hokp, if_pos hz3] at p3
          have hl3 : (ints ((endP n m (r + 1)).cells (k + (r + 1)))).length = (endP n m (r + 1)).count k + 1 := by rw [ints_len, cells_length]; exact end_more (by omega) h0
          have h6 : ((((endP n m (r + 1)).count k + 1 : Nat) : Int) != ((endP n m (r + 1)).count k : Nat) + 1) = false := by simp
          refine vr_f p3 ?_
          simp only [go_sem, hl3, hl1, h6]
          exact ⟨inr64 (by omega) (by omega), inr64 (by omega) (by omega), k + 1, by omega, by omega, by simp [forget]⟩
    · refine vr_f s12 ?_
      simp only [go_sem]


/-! ### Least -/

theorem dn_above (l : List Pt) : ∀ (j s : Nat), dn l j ≤ s → s < j → (allM l (s : Nat)).isEmpty = true
  | 0, s, _, h => by omega
  | j + 1, s, h1, h2 => by
    rw [dn_succ] at h1
    by_cases hE : (allM l (j : Nat)).isEmpty = true
    · rw [if_pos hE] at h1
      by_cases hs : s = j
      · subst hs; exact hE
      · exact dn_above l j s h1 (by omega)
    · rw [if_neg hE] at h1; omega

theorem dn_below (l : List Pt) : ∀ (j : Nat), 0 < dn l j → (allM l ((dn l j - 1 : Nat) : Nat)).isEmpty = false
  | 0, h => by simp [dn] at h
  | j + 1, h => by
    rw [dn_succ] at h ⊢
    by_cases hE : (allM l (j : Nat)).isEmpty = true
    · rw [if_pos hE] at h ⊢; exact dn_below l j h
    · rw [if_neg hE]; simpa using hE

theorem szs_dn (l : List Pt) : ∀ (j : Nat), j ≤ dn l j + (szs l j).length
  | 0 => by omega
  | j + 1 => by
    have := szs_dn l j
    rw [dn_succ, szs_succ, List.length_append]
    by_cases hE : (allM l (j : Nat)).isEmpty = true
    · rw [if_pos hE, if_pos hE]; simp; omega
    · rw [if_neg hE, if_neg hE]; simp

theorem szs_mem {l : List Pt} {j : Nat} {x : Int} (h : x ∈ szs l j) : 0 ≤ x ∧ x < j := by
  unfold szs at h
  obtain ⟨s, hs, rfl⟩ := List.mem_map.1 h
  rw [List.mem_filter, List.mem_range] at hs
  omega

set_option maxHeartbeats 4000000 in
set_option maxRecDepth 100000 in
theorem law4 (l : List Pt) (cap : Option Nat) : Fn Try.prog 4 [.rslc 5 (l.map Pt.cv) cap] (.bool true) := by
  refine fn_of_code c4_ok rfl rfl fun N => ?_
  by_cases hv : (decide (l.length ≤ 6) && ptsOk l) = true
  · simp only [Bool.and_eq_true, decide_eq_true_eq] at hv
    obtain ⟨h6, hv⟩ := hv
    have hlen : l.length ≤ 1000 := by omega
    have hd := dn_le l 101
    have hsl := szs_len l 101
    have p1 := s22 l none hlen
    have p2 := s23 l none hlen
    rw [least_dn] at p1
    rw [if_pos hv] at p1 p2
    have hb : (decide (l.length ≤ 6) && ptsOk l) = true := by simp [h6, hv]
    simp only [c4, go_sem]
    refine vr_f (s21 l cap) ?_
    rw [hb]
    simp only [go_sem]
    refine vr_f (s13 l cap hlen) ?_
    simp only [go_sem]
    by_cases hD : dn l 101 = 101
    · have hz : isSz (dn l 101 : Nat) = false := by rw [hD]; rfl
      rw [if_neg (by rw [hz]; simp)] at p1
      refine vr_f p1 ?_
      simp only [go_sem]
      refine vr_f (s13 l cap hlen) ?_
      simp only [go_sem]
      refine vr_f p2 ?_
      simp only [go_sem]
      have hs100 : szs l 101 = szs l 100 := by
        have h0 : dn l 101 = _ := dn_succ l 100
        have h1 : szs l 101 = _ := szs_succ l 100
        by_cases hE : (allM l ((100 : Nat) : Nat)).isEmpty = true
        · rw [if_pos hE] at h0; have := dn_le l 100; omega
        · rw [if_neg hE, List.append_nil] at h1; exact h1
      rw [hs100]
      cases hx : szs l 100 with
      | nil =>
        simp only [go_sem, ints, List.map_nil]
        refine vr_fg (gok rfl) s12 ?_
        simp only [go_sem]
      | cons y ys =>
        have hlast : ∃ z, (ints (szs l 100)).getD ((szs l 100).length - 1) [] = [.int .i64 z] ∧ z < 100 := by
          have hlt : (szs l 100).length - 1 < (szs l 100).length := by rw [hx]; simp
          refine ⟨(szs l 100)[(szs l 100).length - 1], ?_, ?_⟩
          · simp [ints, List.getD_eq_getElem?_getD, List.getElem?_eq_getElem hlt]
          · exact (szs_mem (List.getElem_mem hlt)).2
        rw [hx] at hlast
        obtain ⟨z, hz1, hz2⟩ := hlast
        have hl : (ints (y :: ys)).length = ys.length + 1 := by simp [ints]
        have hysl : ys.length ≤ 101 := by have := szs_len l 100; rw [hx] at this; simp at this; omega
        have he0 : (((ys.length + 1 : Nat) : Int) == 0) = false := by simp; omega
        have hz3 : (ints (y :: ys)).getD (((ys.length + 1 : Nat) : Int) - 1).toNat [] = [.int .i64 z] := by
          rw [← hz1]; congr 1; simp
        simp only [go_sem, hl, he0, hz3, hz2]
        refine ⟨inr64 (by omega) (by omega), ⟨by omega, by omega⟩, ?_⟩
        refine vr_fg (gok rfl) s12 ?_
        simp only [go_sem]
    · have hz : isSz (dn l 101 : Nat) = true := by simp [isSz]; omega
      rw [if_pos hz] at p1
      have hch : chk l (dn l 101 : Nat) = 0 := by simp [chk, hv, hz]
      have p3 := s15 l none (dn l 101 : Nat) hlen
      have hfn : firstM l (101 - ((dn l 101 : Nat) : Int)).toNat (dn l 101 : Nat) = none := firstM_none _ _ fun i hi => by
        have := dn_above l 101 (dn l 101 + i) (by omega) (by omega)
        rw [show ((dn l 101 : Nat) : Int) + (i : Int) = ((dn l 101 + i : Nat) : Int) by omega]; exact this
      rw [if_pos hch, hfn] at p3
      have hsd := szs_dn l 101
      have hbl := dn_below l 101
      generalize dn l 101 = D at *
      have n0 : ¬ (D : Int) < 0 := by omega
      have n1 : ¬ (100 : Int) < D := by omega
      refine vr_f p1 ?_
      simp only [go_sem]
      refine vr_f (s13 l cap hlen) ?_
      simp only [go_sem]
      refine vr_f p2 ?_
      simp only [go_sem, n0, n1, ints_len]
      refine vr_f (s13 l cap hlen) ?_
      simp only [go_sem, n0, n1, ints_len]
      refine vr_f p3 ?_
      simp only [go_sem, noM, ints_len]
      have hgt : (100 : Int) - D < ((szs l 101).length : Nat) := by omega
      by_cases hD0 : D = 0
      · subst hD0
        have hgt2 : (100 : Int) - (0 : Nat) < ((szs l 101).length : Nat) := hgt
        simp only [go_sem, Int.lt_irrefl]
        have hg0 : (100 : Int) < ((szs l 101).length : Nat) := by omega
        refine ⟨inr64 (by omega) (by omega), fun hg => ?_, fun h => absurd hg0 h⟩
        simp only [go_sem, hg]
        refine vr_fg (gok rfl) s12 ?_
        simp only [go_sem]
      · have hpos : (0 : Int) < D := by omega
        have hE := hbl (by omega)
        have hz4 : isSz ((D : Int) - 1) = true := by simp [isSz]; omega
        have hch2 : chk l ((D : Int) - 1) = 0 := by simp [chk, hv, hz4]
        have p4 := s15 l none ((D : Int) - 1) hlen
        have hcast : ((D - 1 : Nat) : Int) = (D : Int) - 1 := by omega
        rw [hcast] at hE
        have hfm : ∃ c d, firstM l (101 - ((D : Int) - 1)).toNat ((D : Int) - 1) = some (missCv ((D : Int) - 1) c d) := by
          have e : (101 - ((D : Int) - 1)).toNat = (101 - ((D : Int) - 1)).toNat - 1 + 1 := by omega
          cases hm : allM l ((D : Int) - 1) with
          | nil => rw [hm] at hE; simp at hE
          | cons m r =>
            obtain ⟨c, d, rfl⟩ := allM_cell l ((D : Int) - 1) m (by rw [hm]; simp)
            exact ⟨c, d, by rw [e]; exact firstM_cons hm⟩
        obtain ⟨c, d, hfm⟩ := hfm
        rw [if_pos hch2, hfm] at p4
        simp only [go_sem, hpos]
        refine vr_f (s13 l cap hlen) ?_
        simp only [go_sem]
        refine ⟨inr64 (by omega) (by omega), ?_⟩
        refine vr_f p4 ?_
        simp only [go_sem, missCv, hgt, ints_len]
        refine ⟨inr64 (by omega) (by omega), inr64 (by omega) (by omega), ?_⟩
        refine vr_fg (gok rfl) s12 ?_
        simp only [go_sem]
  · have hb : (decide (l.length ≤ 6) && ptsOk l) = false := by simpa using hv
    simp only [c4, go_sem]
    refine vr_f (s21 l cap) ?_
    rw [hb]
    simp only [go_sem]
    refine vr_f s12 ?_
    simp only [go_sem]

end Go.Cm
end

section
open Go.Proofs
namespace Go.Cm

/-- A row of 500 counters, for the cells from -200 on. -/
def arrOf (f : Int → Nat) : List (List CV) := (List.range 500).map fun (j : Nat) => [.int .i64 (f ((j : Int) - 200))]

theorem arr_len (f : Int → Nat) : (arrOf f).length = 500 := by simp [arrOf]
theorem arr_get {f : Int → Nat} {c : Int} (h : -200 ≤ c ∧ c < 300) : (arrOf f).getD (c + 200).toNat [] = [.int .i64 (f c)] := by
  have hlt : (c + 200).toNat < 500 := by omega
  have e : (((c + 200).toNat : Nat) : Int) - 200 = c := by omega
  unfold arrOf
  rw [List.getD_eq_getElem?_getD, List.getElem?_map, List.getElem?_range hlt]
  simp only [Option.map_some, Option.getD_some, e]
theorem arr_set {f g : Int → Nat} {c : Int} (h : -200 ≤ c ∧ c < 300) (hg : ∀ x, g x = f x + if x = c then 1 else 0) : (arrOf f).set (c + 200).toNat [.int .i64 ((f c : Nat) + 1)] = arrOf g := by
  refine List.ext_getElem? fun j => ?_
  rw [List.getElem?_set]
  by_cases hj : (c + 200).toNat = j
  · subst hj
    have hlt : (c + 200).toNat < 500 := by omega
    have e : (((c + 200).toNat : Nat) : Int) - 200 = c := by omega
    rw [if_pos rfl, if_pos (by rw [arr_len]; exact hlt)]
    unfold arrOf
    rw [List.getElem?_map, List.getElem?_range hlt]
    simp only [Option.map_some, e, hg c, if_true]
    rfl
  · rw [if_neg hj]
    unfold arrOf
    rw [List.getElem?_map, List.getElem?_map]
    by_cases hjl : j < 500
    · simp only [List.getElem?_range hjl, Option.map_some, hg]
      have : ¬ ((j : Int) - 200 = c) := by omega
      rw [if_neg this]; rfl
    · rw [List.getElem?_eq_none (by simp; omega)]; rfl

theorem closed_arr (f : Int → Nat) : closedEls (arrOf f) = true := by
  rw [closedEls_iff]
  intro e he
  obtain ⟨j, _, rfl⟩ := List.mem_map.1 he
  rfl

theorem arr_congr {f g : Int → Nat} (h : ∀ x, f x = g x) : arrOf f = arrOf g := by
  have : f = g := funext h
  rw [this]

theorem find_le {q : Pt → Bool} : ∀ (l : List Pt) (j i : Nat) (p : Pt), l[i]? = some p → q p = true → 0 ≤ findAt q l j ∧ findAt q l j ≤ j + i
  | [], _, _, _, h, _ => by simp at h
  | a :: l, j, i, p, h, hq => by
    by_cases ha : q a = true
    · simp only [findAt, ha, if_true]; omega
    · cases i with
      | zero => simp at h; subst h; exact absurd hq ha
      | succ i =>
        have := find_le l (j + 1) i p (by simpa using h) hq
        simp only [findAt, if_neg ha]
        omega

theorem cells_mem_has {p : Pt} {n : Int} {k : Nat} {c : Int} (hst : 0 < p.st) (h : (p.cells n)[k]? = some c) : p.has n c = true :=
  (mem_cells hst).1 (List.mem_of_getElem? h)

theorem count_take {cs : List Int} {k : Nat} {c : Int} (h : cs[k]? = some c) (x : Int) : (cs.take (k + 1)).count x = (cs.take k).count x + if x = c then 1 else 0 := by
  have hlt := (List.getElem?_eq_some_iff.1 h).1
  have hp := (List.getElem?_eq_some_iff.1 h).2
  rw [List.take_succ_eq_append_getElem hlt, hp, List.count_append]
  by_cases e : x = c
  · subst e; simp
  · have : ¬ c = x := fun h => e h.symm
    simp [e, List.count_cons, this]

theorem hasN_full {l : List Pt} {n : Int} {i : Nat} {p : Pt} (h : l[i]? = some p) (hst : 0 < p.st) (x : Int) : hasN (l.take i) n x + (p.cells n).count x = hasN (l.take (i + 1)) n x := by
  rw [hasN_take h, count_nodup (cells_nodup hst)]
  by_cases hq : p.has n x = true
  · simp [hq, (mem_cells hst).2 hq]
  · have : ¬ x ∈ p.cells n := fun hh => hq ((mem_cells hst).1 hh)
    simp [hq, this]

theorem mem_szs {l : List Pt} {n : Nat} (h : n < 101) : ((n : Int) ∈ szs l 101) ↔ (allM l (n : Nat)).isEmpty = true := by
  unfold szs
  constructor
  · intro hm
    obtain ⟨s, hs, he⟩ := List.mem_map.1 hm
    rw [List.mem_filter] at hs
    have : s = n := by omega
    subst this
    exact hs.2
  · intro he
    exact List.mem_map.2 ⟨n, List.mem_filter.2 ⟨List.mem_range.2 h, he⟩, rfl⟩

set_option maxHeartbeats 8000000 in
set_option maxRecDepth 100000 in
theorem law9 (l : List Pt) (cap : Option Nat) (s : Int) (hs : InR .u8 s) : Fn Try.prog 9 [.rslc 5 (l.map Pt.cv) cap, .int .u8 s] (.bool true) := by
  refine fn_of_code c9_ok rfl rfl fun N => ?_
  have hs := inr_u8 hs
  obtain ⟨n, hn⟩ : ∃ n, s.tmod 101 = n := ⟨_, rfl⟩
  have hn2 : 0 ≤ n ∧ n ≤ 100 := by rw [← hn, Int.tmod_eq_emod_of_nonneg hs.1]; omega
  by_cases hv : (decide (l.length ≤ 6) && ptsOk l) = true
  · have hb := hv
    simp only [Bool.and_eq_true, decide_eq_true_eq] at hv
    obtain ⟨h6, hv⟩ := hv
    have hlen : l.length ≤ 1000 := by omega
    have hok : ∀ p ∈ l, p.ok = true := by
      simp only [ptsOk, Bool.and_eq_true, List.all_eq_true] at hv
      exact hv.2
    have hsmall := smallsN hv hn2
    have hz : isSz n = true := by simp [isSz, hn2]
    have hch : chk l n = 0 := by simp [chk, hv, hz]
    simp only [c9, go_sem, hn]
    refine ⟨inr64 (by omega) (by omega), by omega, ?_⟩
    refine vr_f (s21 l cap) ?_
    rw [hb]
    simp only [go_sem]
    refine ⟨by decide, ?_⟩
    refine vr_loopR (I := fun i : Nat => i ≤ l.length) (inv := fun i => gp [(0, .rslc 5 (l.map Pt.cv) cap), (4, .int .i64 n), (0, .slc 0 0 500 (some 500)), (0, .int .i64 i)] 230) (hp := fun i => [.arr 1 (arrOf fun c => hasN (l.take i) n c)]) (μ := fun i => l.length - i) 0 [0] (by omega) rfl ?_ ?_ ?_
    · simp [forget, gp, renL, ren, renId]
    · have e0 : arrOf (fun c => hasN (l.take 0) n c) = arrOf fun _ => 0 := arr_congr fun c => by simp [hasN]
      rw [e0]
      rfl
    · intro i hi
      simp only [go_sem, List.length_map]
      refine ⟨fun h5 => ?_, fun h5 => ?_⟩
      · have hlt : i < l.length := by omega
        obtain ⟨p, hp⟩ : ∃ p, l[i]? = some p := ⟨_, List.getElem?_eq_getElem hlt⟩
        have hpm := List.mem_of_getElem? hp
        have hsm := hsmall p hpm
        have hst : 0 < p.st := by have := hsm.st; omega
        have hcl := count_le hsm
        have p1 := s27 p n
        rw [if_pos (hok p hpm), if_pos hz] at p1
        rw [getD_map hp]
        refine ⟨by omega, by simp [Pt.cv], ?_⟩
        simp only [go_sem, Pt.cv]
        refine vr_f p1 ?_
        simp only [go_sem]
        have h00 : (fun c => hasN (l.take i) n c) = fun c => hasN (l.take i) n c + ((p.cells n).take 0).count c := by funext c; simp
        refine vr_loopR (I := fun k : Nat => k ≤ p.count n) (inv := fun k => gp [(0, .rslc 5 (l.map Pt.cv) cap), (4, .int .i64 n), (0, .slc 0 0 500 (some 500)), (0, .int .i64 i), (0, .rslc 1 (ints (p.cells n)) none), (1, .int .i64 k)] 227) (hp := fun k => [.arr 1 (arrOf fun c => hasN (l.take i) n c + ((p.cells n).take k).count c)]) (μ := fun k => p.count n - k) 0 [0] (by omega) rfl ?_ ?_ ?_
        · simp [forget, gp, renL, ren, renId]
        · rw [← h00]
          simp [renH, renO, arrOf, renL, ren]
        · intro k hk
          simp only [go_sem, ints_len, cells_length]
          refine ⟨fun h6' => ?_, fun h6' => ?_⟩
          · have hklt : k < p.count n := by omega
            have hck := cells_get hklt
            have hhas := cells_mem_has hst hck
            have hcr : -100 ≤ p.at n k ∧ p.at n k ≤ 200 := by
              have h1 := hsm.first
              have h2 := hsm.last
              simp only [Pt.has, Bool.and_eq_true, decide_eq_true_eq] at hhas
              omega
            have hg : (ints (p.cells n)).getD k [] = [.int .i64 (p.at n k)] := by simp [ints, List.getD_eq_getElem?_getD, hck]
            have c1 : ¬ p.at n k < -200 := by omega
            have c2 : ¬ 200 < p.at n k := by omega
            have hset := arr_set (f := fun c => hasN (l.take i) n c + ((p.cells n).take k).count c) (g := fun c => hasN (l.take i) n c + ((p.cells n).take (k + 1)).count c) (c := p.at n k) ⟨by omega, by omega⟩ (fun x => by simp only [count_take hck x]; omega)
            have hag := arr_get (f := fun c => hasN (l.take i) n c + ((p.cells n).take k).count c) (c := p.at n k) ⟨by omega, by omega⟩
            have hfb : hasN (l.take i) n (p.at n k) + ((p.cells n).take k).count (p.at n k) ≤ 1000 := by
              have h1 := hasN_le (l.take i) n (p.at n k)
              have h2 : (l.take i).length ≤ 6 := by rw [List.length_take]; omega
              have h3 : ((p.cells n).take k).count (p.at n k) ≤ ((p.cells n).take k).length := List.count_le_length
              have h4 : ((p.cells n).take k).length ≤ k := List.length_take_le _ _
              omega
            generalize (fun c => hasN (l.take i) n c + ((p.cells n).take k).count c) = F at *
            generalize hasN (l.take i) n (p.at n k) + ((p.cells n).take k).count (p.at n k) = fc at *
            have hfl := arr_len F
            have hw := find_le (q := fun q => q.has n (p.at n k)) l 0 i p hp hhas
            refine vr_dreg mixed (by decide) ?_
            by_cases hk0 : k = 0
            · subst hk0
              simp only [go_sem, ints_len, cells_length, hg, c1, c2, Int.lt_irrefl, hag, hfl]
              repeat' refine And.intro ?_ ?_
              all_goals try (first | omega | exact inr64 (by omega) (by omega))
              rw [hset]
              refine vr_dreg mixed (by decide) ?_
              simp only [go_sem, ints_len, cells_length, hg]
              refine vd_call (.inl rfl) (s13 l cap hlen) ?_
              simp only [go_sem, ints_len, cells_length, hg]
              refine ⟨by omega, ?_⟩
              by_cases hin : 0 ≤ p.at n 0 ∧ p.at n 0 < n
              · have p2 := s24 l none n (p.at n 0) hlen
                have hwl : 0 ≤ whoOf l n (p.at n 0) ∧ whoOf l n (p.at n 0) ≤ i := by unfold whoOf; simpa using hw
                rw [if_pos hch, if_pos hin, if_neg (by omega)] at p2
                refine vd_call (.inl rfl) p2 ?_
                have d1 : ¬ (i : Int) < whoOf l n (p.at n 0) := by omega
                have d2 : ¬ whoOf l n (p.at n 0) < 0 := by omega
                simp only [go_sem, ints_len, cells_length, hg, hin.1, hin.2, d1, d2]
                refine ⟨by omega, by omega, inr64 (by omega) (by omega), 1, [0], by omega, by omega, rfl, ?_, ?_⟩
                · simp only [renH, List.map_cons, List.map_nil, go_sem, renO_arr, renEls_closed (closed_arr _)]
                · simp [forget, renL, ren, renId]
              · have p2 := s24 l none n (p.at n 0) hlen
                rw [if_pos hch, if_neg hin] at p2
                refine vd_call (.inl rfl) p2 ?_
                have hI : (decide (0 ≤ p.at n 0) = false ∧ decide ((0 : Int) ≤ 0) = true) ∨ (decide (0 ≤ p.at n 0) = true ∧ decide (p.at n 0 < n) = false) := by
                  simp only [decide_eq_false_iff_not, decide_eq_true_eq]; omega
                rcases hI with ⟨i1, _⟩ | ⟨i1, i2⟩
                · simp only [go_sem, ints_len, cells_length, hg, i1]
                  refine ⟨by omega, inr64 (by omega) (by omega), 1, [0], by omega, by omega, rfl, ?_, ?_⟩
                  · simp only [renH, List.map_cons, List.map_nil, go_sem, renO_arr, renEls_closed (closed_arr _)]
                  · simp [forget, renL, ren, renId]
                · simp only [go_sem, ints_len, cells_length, hg, i1, i2]
                  refine ⟨by omega, by omega, inr64 (by omega) (by omega), 1, [0], by omega, by omega, rfl, ?_, ?_⟩
                  · simp only [renH, List.map_cons, List.map_nil, go_sem, renO_arr, renEls_closed (closed_arr _)]
                  · simp [forget, renL, ren, renId]
            · have hkp : (0 : Int) < k := by omega
              have hkn : ((k : Int) - 1).toNat = k - 1 := by omega
              have hgp : (ints (p.cells n)).getD (k - 1) [] = [.int .i64 (p.at n (k - 1 : Nat))] := by
                have := cells_get (p := p) (n := n) (s := k - 1) (by omega)
                simp [ints, List.getD_eq_getElem?_getD, this]
              have hstep : p.at n k = p.at n (k - 1 : Nat) + p.st := by
                unfold Pt.at
                have : ((k : Nat) : Int) = ((k - 1 : Nat) : Int) + 1 := by omega
                rw [this, Int.add_mul]; omega
              have hneq : (p.at n k != p.at n (k - 1 : Nat) + p.st) = false := by rw [hstep]; simp
              simp only [go_sem, ints_len, cells_length, hg, c1, c2, hkp, hkn, hgp, List.length_map]
              rw [getD_map hp]
              simp only [go_sem, Pt.cv, hneq, ints_len, cells_length, hg, hag, hfl]
              repeat' refine And.intro ?_ ?_
              all_goals try (first | omega | exact inr64 (by omega) (by omega))
              rw [hset]
              refine vr_dreg mixed (by decide) ?_
              simp only [go_sem, ints_len, cells_length, hg]
              refine vd_call (.inl rfl) (s13 l cap hlen) ?_
              simp only [go_sem, ints_len, cells_length, hg]
              refine ⟨by omega, ?_⟩
              by_cases hin : 0 ≤ p.at n k ∧ p.at n k < n
              · have p2 := s24 l none n (p.at n k) hlen
                have hwl : 0 ≤ whoOf l n (p.at n k) ∧ whoOf l n (p.at n k) ≤ i := by unfold whoOf; simpa using hw
                rw [if_pos hch, if_pos hin, if_neg (by omega)] at p2
                refine vd_call (.inl rfl) p2 ?_
                have d1 : ¬ (i : Int) < whoOf l n (p.at n k) := by omega
                have d2 : ¬ whoOf l n (p.at n k) < 0 := by omega
                simp only [go_sem, ints_len, cells_length, hg, hin.1, hin.2, d1, d2]
                refine ⟨⟨by omega, by omega⟩, ⟨by omega, by omega⟩, inr64 (by omega) (by omega), k + 1, [0], by omega, by omega, rfl, ?_, ?_⟩
                · simp only [renH, List.map_cons, List.map_nil, go_sem, renO_arr, renEls_closed (closed_arr _)]
                · simp [forget, renL, ren, renId]
              · have p2 := s24 l none n (p.at n k) hlen
                rw [if_pos hch, if_neg hin] at p2
                refine vd_call (.inl rfl) p2 ?_
                have hI : (decide (0 ≤ p.at n k) = false ∧ decide ((0 : Int) ≤ 0) = true) ∨ (decide (0 ≤ p.at n k) = true ∧ decide (p.at n k < n) = false) := by
                  simp only [decide_eq_false_iff_not, decide_eq_true_eq]; omega
                rcases hI with ⟨i1, _⟩ | ⟨i1, i2⟩
                · simp only [go_sem, ints_len, cells_length, hg, i1]
                  refine ⟨⟨by omega, by omega⟩, inr64 (by omega) (by omega), k + 1, [0], by omega, by omega, rfl, ?_, ?_⟩
                  · simp only [renH, List.map_cons, List.map_nil, go_sem, renO_arr, renEls_closed (closed_arr _)]
                  · simp [forget, renL, ren, renId]
                · simp only [go_sem, ints_len, cells_length, hg, i1, i2]
                  refine ⟨⟨by omega, by omega⟩, ⟨by omega, by omega⟩, inr64 (by omega) (by omega), k + 1, [0], by omega, by omega, rfl, ?_, ?_⟩
                  · simp only [renH, List.map_cons, List.map_nil, go_sem, renO_arr, renEls_closed (closed_arr _)]
                  · simp [forget, renL, ren, renId]
          · have hke : k = p.count n := by omega
            have hct : (p.cells n).take k = p.cells n := by rw [hke, ← cells_length (p := p), List.take_length]
            have hfull : (arrOf fun c => hasN (l.take i) n c + ((p.cells n).take k).count c) = arrOf fun c => hasN (l.take (i + 1)) n c := by
              rw [hct]; exact arr_congr fun c => hasN_full hp hst c
            rw [hfull]
            refine ⟨inr64 (by omega) (by omega), i + 1, [0], by omega, by omega, rfl, ?_, ?_⟩
            · simp only [renH, List.map_cons, List.map_nil, go_sem, renO_arr, renEls_closed (closed_arr _)]
            · simp [forget, renL, ren, renId]
      · have hil : i = l.length := by omega
        subst hil
        rw [List.take_length]
        refine vr_loopR (I := fun k : Nat => k ≤ 401) (inv := fun k => gp [(0, .rslc 5 (l.map Pt.cv) cap), (4, .int .i64 n), (0, .slc 0 0 500 (some 500)), (6, .slc 1 0 (rms l n k).length (capE (rms l n k))), (0, .int .i64 (k - 200))] 223) (hp := fun k => [.arr 1 (arrOf fun c => hasN l n c), .arr 3 (rms l n k)]) (μ := fun k => 401 - k) 0 [0, 1] (by omega) rfl ?_ ?_ ?_
        · simp [forget, gp, renL, ren, renId, rms, capE]
        · simp only [renH, List.map_cons, List.map_nil, go_sem, renO_arr, renEls_closed (closed_arr _), rms]
        · intro k hk
          by_cases h7 : (k : Int) - 200 ≤ 200
          · have hml := rms_len l n k
            have hag := arr_get (f := fun c => hasN l n c) (c := (k : Int) - 200) ⟨by omega, by omega⟩
            have hfl := arr_len (fun c => hasN l n c)
            have hse := rms_succ l n k
            generalize hR : rms l n (k + 1) = R at *
            have hRc : closedEls R = true := by rw [← hR]; exact rms_closed _ _ _
            unfold howOf at hse
            generalize hasN l n ((k : Int) - 200) = nn at *
            by_cases hin : 0 ≤ (k : Int) - 200 ∧ (k : Int) - 200 ≤ n - 1
            · rw [if_pos hin] at hse
              have i1 := hin.1
              have i2 : (k : Int) - 200 < n := by omega
              by_cases h0 : nn = 0
              · subst h0
                have hse2 : R = rms l n k ++ [missCv n (k - 200) 1] := by rw [hse]; simp
                simp only [go_sem, h7, hag, hfl, roomOk, i1, i2]
                repeat' refine And.intro ?_ ?_
                all_goals try (first | omega | exact inr64 (by omega) (by omega))
                refine ⟨k + 1, [0, 3], by omega, by omega, rfl, ?_, ?_⟩
                · rw [hR]
                  simp only [renH, List.map_cons, List.map_nil, go_sem, renO_arr, renEls_closed (closed_arr _)]
                  have hRc2 := renEls_closed (ρ := [0, 3]) hRc
                  rw [hse2] at hRc2 ⊢
                  simp only [missCv] at hRc2 ⊢
                  rw [hRc2]
                · rw [hR, hse2, capE_app]; simp [forget, renL, ren, renId]; omega
              · have e0 : (((nn : Nat) : Int) == 0) = false := by simp; omega
                by_cases h1 : 1 < nn
                · have e1 : (1 : Int) < (nn : Nat) := by omega
                  have hse2 : R = rms l n k ++ [missCv n (k - 200) 2] := by rw [hse]; simp [h0, h1]
                  simp only [go_sem, h7, hag, hfl, roomOk, i1, i2, e0, e1]
                  repeat' refine And.intro ?_ ?_
                  all_goals try (first | omega | exact inr64 (by omega) (by omega))
                  refine ⟨k + 1, [0, 3], by omega, by omega, rfl, ?_, ?_⟩
                  · rw [hR]
                    simp only [renH, List.map_cons, List.map_nil, go_sem, renO_arr, renEls_closed (closed_arr _)]
                    have hRc2 := renEls_closed (ρ := [0, 3]) hRc
                    rw [hse2] at hRc2 ⊢
                    simp only [missCv] at hRc2 ⊢
                    rw [hRc2]
                  · rw [hR, hse2, capE_app]; simp [forget, renL, ren, renId]; omega
                · have e1 : ¬ (1 : Int) < (nn : Nat) := by omega
                  have hse2 : R = rms l n k := by rw [hse]; simp [h0, h1]
                  simp only [go_sem, h7, hag, hfl, roomOk, i1, i2, e0, e1]
                  repeat' refine And.intro ?_ ?_
                  all_goals try (first | omega | exact inr64 (by omega) (by omega))
                  refine ⟨k + 1, [0, 1], by omega, by omega, rfl, ?_, ?_⟩
                  · rw [hR, hse2]
                    simp only [renH, List.map_cons, List.map_nil, go_sem, renO_arr, renEls_closed (closed_arr _), renEls_closed (rms_closed l n k)]
                  · rw [hR, hse2]; simp [forget, renL, ren, renId]; omega
            · rw [if_neg hin] at hse
              have hI : (decide (0 ≤ (k : Int) - 200) = false ∧ decide ((0 : Int) ≤ 0) = true) ∨ (decide (0 ≤ (k : Int) - 200) = true ∧ decide ((k : Int) - 200 < n) = false) := by
                simp only [decide_eq_false_iff_not, decide_eq_true_eq]; omega
              by_cases h0 : 0 < nn
              · have e0 : (0 : Int) < (nn : Nat) := by omega
                rcases hI with ⟨i1, i2⟩ | ⟨i1, i2⟩
                all_goals
                  have hse2 : R = rms l n k ++ [missCv n (k - 200) 3] := by rw [hse]; simp [h0]
                  simp only [go_sem, h7, hag, hfl, roomOk, i1, i2, e0]
                  repeat' refine And.intro ?_ ?_
                  all_goals try (first | omega | exact inr64 (by omega) (by omega))
                  refine ⟨k + 1, [0, 3], by omega, by omega, rfl, ?_, ?_⟩
                  · rw [hR]
                    simp only [renH, List.map_cons, List.map_nil, go_sem, renO_arr, renEls_closed (closed_arr _)]
                    have hRc2 := renEls_closed (ρ := [0, 3]) hRc
                    rw [hse2] at hRc2 ⊢
                    simp only [missCv] at hRc2 ⊢
                    rw [hRc2]
                  · rw [hR, hse2, capE_app]; simp [forget, renL, ren, renId]; omega
              · have e0 : ¬ (0 : Int) < (nn : Nat) := by omega
                rcases hI with ⟨i1, i2⟩ | ⟨i1, i2⟩
                all_goals
                  have hse2 : R = rms l n k := by rw [hse]; simp [h0]
                  simp only [go_sem, h7, hag, hfl, roomOk, i1, i2, e0]
                  repeat' refine And.intro ?_ ?_
                  all_goals try (first | omega | exact inr64 (by omega) (by omega))
                  refine ⟨k + 1, [0, 1], by omega, by omega, rfl, ?_, ?_⟩
                  · rw [hR, hse2]
                    simp only [renH, List.map_cons, List.map_nil, go_sem, renO_arr, renEls_closed (closed_arr _), renEls_closed (rms_closed l n k)]
                  · rw [hR, hse2]; simp [forget, renL, ren, renId]; omega
          · have hk4 : k = 401 := by omega
            subst hk4
            rw [rms_all hsmall hn2]
            have hcell : ∀ m ∈ allM l n, ∃ a c d, m = missCv a c d := fun m h => ⟨n, allM_cell l n m h⟩
            have hml : (allM l n).length ≤ 1000 := by rw [allM_eq]; have := mss_len l n (n.toNat + 201); omega
            have p3 := s14 l none n hlen
            have p4 := s23 l none hlen
            rw [if_pos hch] at p3
            rw [if_pos hv] at p4
            have hsl := szs_len l 101
            simp only [go_sem, h7]
            refine vr_freeze (id := 1) (z := 3) (els := allM l n) rfl (allM_closed l n) ?_
            simp only [go_sem, frzL, frzH, frz, frzO]
            refine vr_f (s13 l cap hlen) ?_
            simp only [go_sem]
            refine vr_f p3 ?_
            simp only [go_sem]
            refine vr_f (s13 l cap hlen) ?_
            simp only [go_sem]
            refine vr_f p4 ?_
            simp only [go_sem, Nat.le_refl, List.take_length]
            have hfin : ((szs l 101).any fun x => x == n) = (allM l n).isEmpty := by
              obtain ⟨m, rfl⟩ := Int.eq_ofNat_of_zero_le hn2.1
              rw [Bool.eq_iff_iff, List.any_eq_true, ← mem_szs (by omega)]
              constructor
              · rintro ⟨x, hx, he⟩
                have := beq_iff_eq.1 he
                rw [this] at hx; exact hx
              · intro h; exact ⟨_, h, by simp⟩
            refine vr_loop (I := fun j : Nat => j ≤ (szs l 101).length) (inv := fun j => gp [(5, .int .i64 n), (7, .rslc 3 (allM l n) none), (3, .rslc 3 (allM l n) none), (0, .int .i64 0), (0, .rslc 1 (ints (szs l 101)) none), (0, .int .i64 0), (0, .bool (((szs l 101).take j).any fun x => x == n)), (0, .int .i64 j)] 215) (hp := fun _ => [.arr 1 ((arrOf fun c => hasN l n c).map (frzL 1 3 (allM l n))), .dead]) (μ := fun j => (szs l 101).length - j) 0 (by omega) ?_ ?_ ?_
            · simp [forget, gp]
            · rfl
            · intro j hj
              by_cases h8 : (j : Int) < ((szs l 101).length : Nat)
              · have hjl : j < (szs l 101).length := by omega
                obtain ⟨x, hx⟩ : ∃ x, (szs l 101)[j]? = some x := ⟨_, List.getElem?_eq_getElem hjl⟩
                have hgx : (ints (szs l 101)).getD j [] = [.int .i64 x] := by simp [ints, List.getD_eq_getElem?_getD, hx]
                have hst : ((szs l 101).take (j + 1)).any (fun x => x == n) = (((szs l 101).take j).any (fun x => x == n) || (x == n)) := by
                  rw [List.take_succ_eq_append_getElem hjl, (List.getElem?_eq_some_iff.1 hx).2, List.any_append]; simp
                cases hb0 : ((szs l 101).take j).any (fun x => x == n) with
                | true =>
                  rw [hb0, Bool.true_or] at hst
                  simp only [go_sem, ints_len, h8]
                  refine ⟨inr64 (by omega) (by omega), j + 1, by omega, by omega, ?_⟩
                  rw [hst]; simp [forget]
                | false =>
                  rw [hb0, Bool.false_or] at hst
                  simp only [go_sem, ints_len, h8, hgx]
                  refine ⟨by omega, inr64 (by omega) (by omega), j + 1, by omega, by omega, ?_⟩
                  rw [hst]; simp [forget]
              · have hje : j = (szs l 101).length := by omega
                rw [hje, List.take_length, hfin]
                simp only [go_sem, ints_len, Int.lt_irrefl]
                refine vr_fg (gok rfl) (s18 _ hcell none none hml) ?_
                have hbb : ((allM l n).isEmpty == (((allM l n).length : Int) == 0)) = true := by
                  cases allM l n with
                  | nil => rfl
                  | cons m r => simp; omega
                simp only [go_sem, hbb]
                refine vr_fg (gok rfl) s12 ?_
                simp only [go_sem]
  · have hb : (decide (l.length ≤ 6) && ptsOk l) = false := by simpa using hv
    simp only [c9, go_sem, hn]
    refine ⟨inr64 (by omega) (by omega), by omega, ?_⟩
    refine vr_f (s21 l cap) ?_
    rw [hb]
    simp only [go_sem]
    refine vr_f s12 ?_
    simp only [go_sem]

end Go.Cm
end

section
open Go.Proofs
namespace Go.Proofs.Ytodbhbjjeamoaaa
open Go.Cm Go.ChangeShapes Go.WideShapes Go.RowKit

theorem own9 : ownKnob Try.prog.godebug = none := by kernel_rfl

set_option maxRecDepth 100000 in
theorem lifted9 (os : Os) (started : os.Started) (H : Type) (enc : TypeId × Value → H) :
    ReturnsInHanded {} Try.checked os 9 .any (Rows.regionOnceSpec.pre6 enc Try.prog Try.f9 Rows.regionOnceRow.domain false) (Rows.regionOnceSpec.post enc Try.prog Try.f9 false true false false) := by
  refine returnsInHanded_of_change (C := Try.checked) own9 started (by kernel_rfl) Try.func9
    (ChangeSpec.witness6 (enc := enc) (C := Try.checked) false ⟨#[], #[.slice none 0 0, .int .u8 0], []⟩ 8 (by kernel_rfl) (by kernel_rfl) (by kernel_rfl) (by kernel_rfl)) ?_
  intro W base args ds gs before hval hW _ _
  refine law_contract (d := 4) reg_laid reg_maps reg_full Try.underlying4 (by kernel_rfl) rfl (fun ds hds => ?_) (by kernel_rfl) (fun l hl => ?_) W base args ds gs before hval hW
  · rw [Try.params9] at hds
    match ds, hds with
    | [a, b], _ => exact ⟨rfl, rfl, rfl⟩
  · rw [Try.params9] at hl
    obtain ⟨c0, l0, rfl, h0, c1, l1, rfl, h1, rfl⟩ := hl
    obtain ⟨x0, rfl⟩ := top_parts h0
    obtain ⟨x1, rfl, r1⟩ := top_int Try.underlying5 h1
    exact law9 x0 none x1 r1

theorem regionOnce_holds : Rows.RegionOnceSaid :=
  OpenClaim.holds_of_wide 9 Try.f9 rfl rfl rfl rfl rfl rfl rfl ⟨rfl, rfl, rfl, rfl, rfl⟩ rfl rfl rfl rfl rfl (by kernel_rfl) Try.func9 (by kernel_rfl)
    (of_decide_eq_true (by kernel_rfl)) (by unfold Func.isWrapper; first | (rw [if_pos (by decide +kernel)]; kernel_rfl) | (rw [if_neg (by decide +kernel)]; exact ⟨rfl, rfl⟩))
    (fun os started H enc _ => lifted9 os started H enc)

#print axioms regionOnce_holds
end Go.Proofs.Ytodbhbjjeamoaaa
end
