/-
  Parts of arrays: the statements RegionCells and RegionSizes, their code. Conditions: none.
  Parts of arrays: the statements RegionEnds and RegionLeast, their code. Conditions: none.
  THE STATEMENT RegionEnds: for every input the law returns true, and its arguments read as before. Conditions: none.
-/
import Derived.Test.YtodbhbjjeamoaaaPt2
import Derived.Test.YtodbhbjjeamoaaaRows
import Derived.WalkKit
import Derived.ProofKit
set_option linter.unusedSimpArgs false
set_option linter.unusedVariables false

section
open Go.Proofs
namespace Go.Cm

theorem one_ok (p : Pt) : ptsOk [p] = p.ok := by simp [ptsOk]

set_option maxHeartbeats 4000000 in
set_option maxRecDepth 100000 in
theorem law6 (p : Pt) (n : Int) : Fn Try.prog 6 [.agg p.cv, .int .i64 n] (.bool true) := by
  refine fn_of_code c6_ok rfl rfl fun N => ?_
  have p1 := s27 p n
  by_cases hv : p.ok = true
  · by_cases hz : isSz n = true
    · have hz2 : 0 ≤ n ∧ n ≤ 100 := by simpa [isSz] using hz
      have z1 : ¬ n < 0 := by omega
      have z2 : ¬ 100 < n := by omega
      have hsm := small_of hv hz
      rw [if_pos hv, if_pos hz] at p1
      simp only [c6, go_sem, Pt.cv]
      refine vr_f p1 ?_
      simp only [go_sem, Pt.cv]
      refine vr_freeze (id := 1) (z := 5) (els := [p].map Pt.cv) rfl rfl ?_
      simp only [go_sem, frzL, frzH, frz, frzO, Pt.cv]
      refine vr_f (s17 [p] none (by simp)) ?_
      rw [one_ok, hv]
      simp only [go_sem, z1, z2]
      refine vr_fg (gok rfl) (s29 p n hsm) ?_
      simp only [go_sem]
      refine vr_fg (gok rfl) (s28 _ none none (by rw [cells_length]; have := count_le hsm; omega)) ?_
      simp only [go_sem]
      refine vr_fg (gok rfl) s12 ?_
      simp only [go_sem]
    · have hz2 : ¬ (0 ≤ n ∧ n ≤ 100) := by simpa [isSz] using hz
      rw [if_pos hv, if_neg hz] at p1
      have hD : (decide (n < 0) = false ∧ decide (100 < n) = true) ∨ (decide (n < 0) = true ∧ decide (100 < n) = false) := by
        simp only [decide_eq_false_iff_not, decide_eq_true_eq]; omega
      rcases hD with ⟨z1, z2⟩ | ⟨z1, z2⟩
      all_goals
        simp only [c6, go_sem, Pt.cv]
        refine vr_f p1 ?_
        simp only [go_sem, Pt.cv]
        refine vr_freeze (id := 1) (z := 5) (els := [p].map Pt.cv) rfl rfl ?_
        simp only [go_sem, frzL, frzH, frz, frzO, Pt.cv]
        refine vr_f (s17 [p] none (by simp)) ?_
        rw [one_ok, hv]
        simp only [go_sem, z1, z2]
        refine vr_fg (gok rfl) s12 ?_
        simp only [go_sem]
  · have hv2 : p.ok = false := by simpa using hv
    rw [if_neg hv] at p1
    simp only [c6, go_sem, Pt.cv]
    refine vr_f p1 ?_
    simp only [go_sem, Pt.cv]
    refine vr_freeze (id := 1) (z := 5) (els := [p].map Pt.cv) rfl rfl ?_
    simp only [go_sem, frzL, frzH, frz, frzO, Pt.cv]
    refine vr_f (s17 [p] none (by simp)) ?_
    rw [one_ok, hv2]
    simp only [go_sem]
    refine vr_fg (gok rfl) s12 ?_
    simp only [go_sem]

theorem lst_dn (l : List Pt) : ∀ (j : Nat) (a : Int), (j : Int) ≤ a → (szs l j).reverse.foldl (fun a x => if x = a - 1 then x else a) a = if a = j then (dn l j : Int) else a
  | 0, a, _ => by
    have : szs l 0 = [] := rfl
    rw [this]
    simp only [List.reverse_nil, List.foldl_nil]
    split
    · rename_i h; rw [h]; rfl
    · rfl
  | j + 1, a, ha => by
    rw [szs_succ, List.reverse_append, List.foldl_append, dn_succ]
    by_cases hE : (allM l (j : Nat)).isEmpty = true
    · rw [if_pos hE, if_pos hE]
      simp only [List.reverse_cons, List.reverse_nil, List.nil_append, List.foldl_cons, List.foldl_nil]
      by_cases h1 : (j : Int) = a - 1
      · rw [if_pos h1, lst_dn l j _ (Int.le_refl _), if_pos rfl, if_pos (by omega)]
      · rw [if_neg h1, lst_dn l j a (by omega), if_neg (by omega), if_neg (by omega)]
    · rw [if_neg hE, if_neg hE]
      simp only [List.reverse_nil, List.foldl_nil]
      rw [lst_dn l j a (by omega), if_neg (by omega)]
      split
      · rename_i h; rw [h]
      · rfl

theorem least_dn (l : List Pt) : leastOf l = (dn l 101 : Int) := by
  unfold leastOf lstF
  rw [lst_dn l 101 101 (by omega)]; rfl

theorem filt_len (l : List Pt) (q : Pt → Bool) : (l.filter q).length ≤ l.length := List.length_filter_le _ _

/-- How long a row is that the statements look at: by two questions. -/
theorem look (l : List Pt) (h : ¬ (6 < l.length ∧ l.length ≤ 12)) : (decide ((6 : Int) < (l.length : Nat)) = false ∧ decide (((l.length : Nat) : Int) ≤ 12) = true) ∨ (decide ((6 : Int) < (l.length : Nat)) = true ∧ decide (((l.length : Nat) : Int) ≤ 12) = false) := by
  simp only [decide_eq_false_iff_not, decide_eq_true_eq]; omega

set_option maxHeartbeats 4000000 in
set_option maxRecDepth 100000 in
theorem law10 (l : List Pt) (cap : Option Nat) : Fn Try.prog 10 [.rslc 5 (l.map Pt.cv) cap] (.bool true) := by
  refine fn_of_code c10_ok rfl rfl fun N => ?_
  by_cases hA : 6 < l.length ∧ l.length ≤ 12
  · have a1 : (6 : Int) < (l.length : Nat) := by omega
    have a2 : ((l.length : Nat) : Int) ≤ 12 := by omega
    simp only [c10, go_sem, List.length_map, a1, a2]
    refine vr_f s12 ?_
    simp only [go_sem]
  by_cases hB : 24 < l.length
  · have a1 : (6 : Int) < (l.length : Nat) := by omega
    have a2 : ¬ ((l.length : Nat) : Int) ≤ 12 := by omega
    have a3 : (24 : Int) < (l.length : Nat) := by omega
    simp only [c10, go_sem, List.length_map, a1, a2, a3]
    refine vr_f s12 ?_
    simp only [go_sem]
  have a3 : ¬ (24 : Int) < (l.length : Nat) := by omega
  have hlen : l.length ≤ 1000 := by omega
  have hC := look l hA
  have p1 := s23 l none hlen
  have p2 := s22 l none hlen
  have p3 := s30 l hlen
  have hd := dn_le l 101
  rw [least_dn] at p2
  by_cases hv : ptsOk l = true
  · rw [if_pos hv] at p1 p2 p3
    by_cases h101 : dn l 101 = 101
    · have hz : isSz (dn l 101 : Nat) = false := by rw [h101]; rfl
      rw [if_neg (by rw [hz]; simp)] at p2
      have p4 := s33 l cap hv hlen
      rw [if_pos h101] at p4
      rcases hC with ⟨e1, e2⟩ | ⟨e1, e2⟩
      all_goals
        simp only [c10, go_sem, List.length_map, a3, e1, e2]
        refine vr_f (s13 l cap hlen) ?_
        simp only [go_sem]
        refine vr_f p1 ?_
        simp only [go_sem]
        refine vr_f p2 ?_
        simp only [go_sem]
        refine vr_f p3 ?_
        simp only [go_sem]
        refine vr_f (s16 l none cap hlen) ?_
        simp only [go_sem]
        refine vr_f (s17 l cap hlen) ?_
        simp only [go_sem, hv]
        refine vr_fg (gok rfl) (s31 l cap hv hlen) ?_
        simp only [go_sem]
        refine vr_fg (gok rfl) (s28 _ none none (by have := szs_len l 101; omega)) ?_
        simp only [go_sem]
        refine vr_fg (gok rfl) (s32 l cap hv hlen) ?_
        simp only [go_sem]
        refine vr_fg (gok rfl) (s16 _ none none (by have := filt_len l (fun p => !emp p 101); omega)) ?_
        simp only [go_sem]
        refine vr_f p4 ?_
        simp only [go_sem]
        refine vr_fg (gok rfl) s12 ?_
        simp only [go_sem]
    · have hz : isSz (dn l 101 : Nat) = true := by simp [isSz]; omega
      rw [if_pos hz] at p2
      have p4 := s33 l cap hv hlen
      rw [if_neg h101] at p4
      have hp : (0 : Int) ≤ (dn l 101 : Nat) := by omega
      rcases hC with ⟨e1, e2⟩ | ⟨e1, e2⟩
      all_goals
        simp only [c10, go_sem, List.length_map, a3, e1, e2]
        refine vr_f (s13 l cap hlen) ?_
        simp only [go_sem]
        refine vr_f p1 ?_
        simp only [go_sem]
        refine vr_f p2 ?_
        simp only [go_sem]
        refine vr_f p3 ?_
        simp only [go_sem]
        refine vr_f (s16 l none cap hlen) ?_
        simp only [go_sem]
        refine vr_f (s17 l cap hlen) ?_
        simp only [go_sem, hv]
        refine vr_fg (gok rfl) (s31 l cap hv hlen) ?_
        simp only [go_sem]
        refine vr_fg (gok rfl) (s28 _ none none (by have := szs_len l 101; omega)) ?_
        simp only [go_sem]
        refine vr_fg (gok rfl) (s32 l cap hv hlen) ?_
        simp only [go_sem]
        refine vr_fg (gok rfl) (s16 _ none none (by have := filt_len l (fun p => !emp p 101); omega)) ?_
        simp only [go_sem]
        refine vr_f p4 ?_
        simp only [go_sem, hp]
        refine vr_fg (gok rfl) s12 ?_
        simp only [go_sem]
  · have hv2 : ptsOk l = false := by simpa using hv
    rw [if_neg hv] at p1 p2 p3
    rcases hC with ⟨e1, e2⟩ | ⟨e1, e2⟩
    all_goals
      simp only [c10, go_sem, List.length_map, a3, e1, e2]
      refine vr_f (s13 l cap hlen) ?_
      simp only [go_sem]
      refine vr_f p1 ?_
      simp only [go_sem]
      refine vr_f p2 ?_
      simp only [go_sem]
      refine vr_f p3 ?_
      simp only [go_sem]
      refine vr_f (s16 l none cap hlen) ?_
      simp only [go_sem]
      refine vr_f (s17 l cap hlen) ?_
      simp only [go_sem, hv2]
      refine ⟨inr64 (by omega) (by omega), ?_⟩
      refine vr_fg (gok rfl) s12 ?_
      simp only [go_sem]

end Go.Cm
end

section
open Go.Proofs
namespace Go.Cm

theorem inr_u8 {x : Int} (h : InR .u8 x) : 0 ≤ x ∧ x ≤ 255 := ⟨h.lo, h.hi⟩

def endP (n m by' : Int) : Pt := ⟨false, n, true, m, by'⟩

theorem end_count (n m s k : Int) : (endP n m s).count k = ((k - m - n + s) / s).toNat := rfl

theorem end_more {n m s k : Int} (hs : 1 ≤ s) (h : (endP n m s).count k ≠ 0) : (endP n m s).count (k + s) = (endP n m s).count k + 1 := by
  rw [end_count] at h ⊢
  rw [end_count]
  have e : k + s - m - n + s = (k - m - n + s) + 1 * s := by omega
  rw [e, Int.add_mul_ediv_right _ _ (by omega)]
  omega

theorem end_same (n m s k : Int) : (endP n m s).count k = (endP m n s).count k := by
  rw [end_count, end_count]; congr 2; omega

theorem end_ok {n m s : Int} (hn : 0 ≤ n ∧ n ≤ 100) (hm : 0 ≤ m ∧ m ≤ 100) (hs : 1 ≤ s ∧ s ≤ 9) : (endP n m s).ok = true := by
  have : (endP n m s).ok = ((decide (1 ≤ s) && decide (s ≤ 9)) && isSz n && isSz m) := rfl
  rw [this]
  simp [isSz, hn, hm, hs]

set_option maxHeartbeats 4000000 in
set_option maxRecDepth 100000 in
theorem law8 (a b c : Int) (ha : InR .u8 a) (hb : InR .u8 b) (hc : InR .u8 c) : Fn Try.prog 8 [.int .u8 a, .int .u8 b, .int .u8 c] (.bool true) := by
  refine fn_of_code c8_ok rfl rfl fun N => ?_
  have ha := inr_u8 ha
  have hb := inr_u8 hb
  have hc := inr_u8 hc
  obtain ⟨n, hn⟩ : ∃ n, a.tmod 101 = n := ⟨_, rfl⟩
  obtain ⟨m, hm⟩ : ∃ n, b.tmod 101 = n := ⟨_, rfl⟩
  obtain ⟨r, hr⟩ : ∃ n, c.tmod 9 = n := ⟨_, rfl⟩
  have hn2 : 0 ≤ n ∧ n ≤ 100 := by rw [← hn, Int.tmod_eq_emod_of_nonneg ha.1]; omega
  have hm2 : 0 ≤ m ∧ m ≤ 100 := by rw [← hm, Int.tmod_eq_emod_of_nonneg hb.1]; omega
  have hr2 : 0 ≤ r ∧ r ≤ 8 := by rw [← hr, Int.tmod_eq_emod_of_nonneg hc.1]; omega
  have hokp : (endP n m (r + 1)).ok = true := end_ok hn2 hm2 (by omega)
  have hokq : (endP m n (r + 1)).ok = true := end_ok hm2 hn2 (by omega)
  simp only [c8, go_sem, hn, hm, hr]
  refine ⟨inr64 (by omega) (by omega), by omega, inr64 (by omega) (by omega), by omega, inr64 (by omega) (by omega), by omega, inr64 (by omega) (by omega), ?_⟩
  refine vr_loop (I := fun k : Nat => k ≤ 101) (inv := fun k => gp [(9, .int .i64 (r + 1)), (0, .ptr 0 0 0), (0, .ptr 1 0 0), (0, .int .i64 k)] 85) (hp := fun _ => [.arr 5 [[.bool false, .int .i64 n, .bool true, .int .i64 m, .int .i64 (r + 1)]], .arr 5 [[.bool false, .int .i64 m, .bool true, .int .i64 n, .int .i64 (r + 1)]]]) (μ := fun k => 101 - k) 0 (by omega) ?_ rfl ?_
  · simp [forget, gp]
  · intro k hk
    simp only [go_sem]
    refine ⟨fun h5 => ?_, fun h5 => ?_⟩
    · have hz : isSz (k : Nat) = true := by simp [isSz]; omega
      have p1 := s27 (endP n m (r + 1)) k
      have p2 := s27 (endP m n (r + 1)) k
      rw [if_pos hokp, if_pos hz] at p1
      rw [if_pos hokq, if_pos hz] at p2
      have hl1 : (ints ((endP n m (r + 1)).cells k)).length = (endP n m (r + 1)).count k := by rw [ints_len, cells_length]
      have hl2 : (ints ((endP m n (r + 1)).cells k)).length = (endP n m (r + 1)).count k := by rw [ints_len, cells_length, end_same]
      have hcn := count_le (small_of (p := endP n m (r + 1)) (n := k) hokp hz)
      refine vr_f p1 ?_
      simp only [go_sem]
      refine vr_f p2 ?_
      by_cases hbig : (100 : Int) < k + (r + 1)
      · simp only [go_sem, hl1, hl2, hbig]
        exact ⟨inr64 (by omega) (by omega), inr64 (by omega) (by omega), k + 1, by omega, by omega, by simp [forget]⟩
      · by_cases h0 : (endP n m (r + 1)).count k = 0
        · simp only [go_sem, hl1, hl2, hbig, h0]
          exact ⟨inr64 (by omega) (by omega), inr64 (by omega) (by omega), k + 1, by omega, by omega, by simp [forget]⟩
        · have h1 : ((((endP n m (r + 1)).count k : Nat) : Int) == 0) = false := by simp; omega
          simp only [go_sem, hl1, hl2, hbig, h1]
          refine ⟨inr64 (by omega) (by omega), inr64 (by omega) (by omega), ?_⟩
          have hz3 : isSz (k + (r + 1)) = true := by simp only [isSz, Bool.and_eq_true, decide_eq_true_eq]; omega
          have p3 := s27 (endP n m (r + 1)) (k + (r + 1))
          rw [if_pos hokp, if_pos hz3] at p3
          have hl3 : (ints ((endP n m (r + 1)).cells (k + (r + 1)))).length = (endP n m (r + 1)).count k + 1 := by rw [ints_len, cells_length]; exact end_more (by omega) h0
          have h6 : ((((endP n m (r + 1)).count k + 1 : Nat) : Int) != ((endP n m (r + 1)).count k : Nat) + 1) = false := by simp
          refine vr_f p3 ?_
          simp only [go_sem, hl3, hl1, h6]
          exact ⟨inr64 (by omega) (by omega), inr64 (by omega) (by omega), k + 1, by omega, by omega, by simp [forget]⟩
    · refine vr_f s12 ?_
      simp only [go_sem]


/-! ### Least -/

theorem dn_above (l : List Pt) : ∀ (j s : Nat), dn l j ≤ s → s < j → (allM l (s : Nat)).isEmpty = true
  | 0, s, _, h => by omega
  | j + 1, s, h1, h2 => by
    rw [dn_succ] at h1
    by_cases hE : (allM l (j : Nat)).isEmpty = true
    · rw [if_pos hE] at h1
      by_cases hs : s = j
      · subst hs; exact hE
      · exact dn_above l j s h1 (by omega)
    · rw [if_neg hE] at h1; omega

theorem dn_below (l : List Pt) : ∀ (j : Nat), 0 < dn l j → (allM l ((dn l j - 1 : Nat) : Nat)).isEmpty = false
  | 0, h => by simp [dn] at h
  | j + 1, h => by
    rw [dn_succ] at h ⊢
    by_cases hE : (allM l (j : Nat)).isEmpty = true
    · rw [if_pos hE] at h ⊢; exact dn_below l j h
    · rw [if_neg hE]; simpa using hE

theorem szs_dn (l : List Pt) : ∀ (j : Nat), j ≤ dn l j + (szs l j).length
  | 0 => by omega
  | j + 1 => by
    have := szs_dn l j
    rw [dn_succ, szs_succ, List.length_append]
    by_cases hE : (allM l (j : Nat)).isEmpty = true
    · rw [if_pos hE, if_pos hE]; simp; omega
    · rw [if_neg hE, if_neg hE]; simp

theorem szs_mem {l : List Pt} {j : Nat} {x : Int} (h : x ∈ szs l j) : 0 ≤ x ∧ x < j := by
  unfold szs at h
  obtain ⟨s, hs, rfl⟩ := List.mem_map.1 h
  rw [List.mem_filter, List.mem_range] at hs
  omega

set_option maxHeartbeats 4000000 in
set_option maxRecDepth 100000 in
theorem law4 (l : List Pt) (cap : Option Nat) : Fn Try.prog 4 [.rslc 5 (l.map Pt.cv) cap] (.bool true) := by
  refine fn_of_code c4_ok rfl rfl fun N => ?_
  by_cases hv : (decide (l.length ≤ 6) && ptsOk l) = true
  · simp only [Bool.and_eq_true, decide_eq_true_eq] at hv
    obtain ⟨h6, hv⟩ := hv
    have hlen : l.length ≤ 1000 := by omega
    have hd := dn_le l 101
    have hsl := szs_len l 101
    have p1 := s22 l none hlen
    have p2 := s23 l none hlen
    rw [least_dn] at p1
    rw [if_pos hv] at p1 p2
    have hb : (decide (l.length ≤ 6) && ptsOk l) = true := by simp [h6, hv]
    simp only [c4, go_sem]
    refine vr_f (s21 l cap) ?_
    rw [hb]
    simp only [go_sem]
    refine vr_f (s13 l cap hlen) ?_
    simp only [go_sem]
    by_cases hD : dn l 101 = 101
    · have hz : isSz (dn l 101 : Nat) = false := by rw [hD]; rfl
      rw [if_neg (by rw [hz]; simp)] at p1
      refine vr_f p1 ?_
      simp only [go_sem]
      refine vr_f (s13 l cap hlen) ?_
      simp only [go_sem]
      refine vr_f p2 ?_
      simp only [go_sem]
      have hs100 : szs l 101 = szs l 100 := by
        have h0 : dn l 101 = _ := dn_succ l 100
        have h1 : szs l 101 = _ := szs_succ l 100
        by_cases hE : (allM l ((100 : Nat) : Nat)).isEmpty = true
        · rw [if_pos hE] at h0; have := dn_le l 100; omega
        · rw [if_neg hE, List.append_nil] at h1; exact h1
      rw [hs100]
      cases hx : szs l 100 with
      | nil =>
        simp only [go_sem, ints, List.map_nil]
        refine vr_fg (gok rfl) s12 ?_
        simp only [go_sem]
      | cons y ys =>
        have hlast : ∃ z, (ints (szs l 100)).getD ((szs l 100).length - 1) [] = [.int .i64 z] ∧ z < 100 := by
          have hlt : (szs l 100).length - 1 < (szs l 100).length := by rw [hx]; simp
          refine ⟨(szs l 100)[(szs l 100).length - 1], ?_, ?_⟩
          · simp [ints, List.getD_eq_getElem?_getD, List.getElem?_eq_getElem hlt]
          · exact (szs_mem (List.getElem_mem hlt)).2
        rw [hx] at hlast
        obtain ⟨z, hz1, hz2⟩ := hlast
        have hl : (ints (y :: ys)).length = ys.length + 1 := by simp [ints]
        have hysl : ys.length ≤ 101 := by have := szs_len l 100; rw [hx] at this; simp at this; omega
        have he0 : (((ys.length + 1 : Nat) : Int) == 0) = false := by simp; omega
        have hz3 : (ints (y :: ys)).getD (((ys.length + 1 : Nat) : Int) - 1).toNat [] = [.int .i64 z] := by
          rw [← hz1]; congr 1; simp
        simp only [go_sem, hl, he0, hz3, hz2]
        refine ⟨inr64 (by omega) (by omega), ⟨by omega, by omega⟩, ?_⟩
        refine vr_fg (gok rfl) s12 ?_
        simp only [go_sem]
    · have hz : isSz (dn l 101 : Nat) = true := by simp [isSz]; omega
      rw [if_pos hz] at p1
      have hch : chk l (dn l 101 : Nat) = 0 := by simp [chk, hv, hz]
      have p3 := s15 l none (dn l 101 : Nat) hlen
      have hfn : firstM l (101 - ((dn l 101 : Nat) : Int)).toNat (dn l 101 : Nat) = none := firstM_none _ _ fun i hi => by
        have := dn_above l 101 (dn l 101 + i) (by omega) (by omega)
        rw [show ((dn l 101 : Nat) : Int) + (i : Int) = ((dn l 101 + i : Nat) : Int) by omega]; exact this
      rw [if_pos hch, hfn] at p3
      have hsd := szs_dn l 101
      have hbl := dn_below l 101
      generalize dn l 101 = D at *
      have n0 : ¬ (D : Int) < 0 := by omega
      have n1 : ¬ (100 : Int) < D := by omega
      refine vr_f p1 ?_
      simp only [go_sem]
      refine vr_f (s13 l cap hlen) ?_
      simp only [go_sem]
      refine vr_f p2 ?_
      simp only [go_sem, n0, n1, ints_len]
      refine vr_f (s13 l cap hlen) ?_
      simp only [go_sem, n0, n1, ints_len]
      refine vr_f p3 ?_
      simp only [go_sem, noM, ints_len]
      have hgt : (100 : Int) - D < ((szs l 101).length : Nat) := by omega
      by_cases hD0 : D = 0
      · subst hD0
        have hgt2 : (100 : Int) - (0 : Nat) < ((szs l 101).length : Nat) := hgt
        simp only [go_sem, Int.lt_irrefl]
        have hg0 : (100 : Int) < ((szs l 101).length : Nat) := by omega
        refine ⟨inr64 (by omega) (by omega), fun hg => ?_, fun h => absurd hg0 h⟩
        simp only [go_sem, hg]
        refine vr_fg (gok rfl) s12 ?_
        simp only [go_sem]
      · have hpos : (0 : Int) < D := by omega
        have hE := hbl (by omega)
        have hz4 : isSz ((D : Int) - 1) = true := by simp [isSz]; omega
        have hch2 : chk l ((D : Int) - 1) = 0 := by simp [chk, hv, hz4]
        have p4 := s15 l none ((D : Int) - 1) hlen
        have hcast : ((D - 1 : Nat) : Int) = (D : Int) - 1 := by omega
        rw [hcast] at hE
        have hfm : ∃ c d, firstM l (101 - ((D : Int) - 1)).toNat ((D : Int) - 1) = some (missCv ((D : Int) - 1) c d) := by
          have e : (101 - ((D : Int) - 1)).toNat = (101 - ((D : Int) - 1)).toNat - 1 + 1 := by omega
          cases hm : allM l ((D : Int) - 1) with
          | nil => rw [hm] at hE; simp at hE
          | cons m r =>
            obtain ⟨c, d, rfl⟩ := allM_cell l ((D : Int) - 1) m (by rw [hm]; simp)
            exact ⟨c, d, by rw [e]; exact firstM_cons hm⟩
        obtain ⟨c, d, hfm⟩ := hfm
        rw [if_pos hch2, hfm] at p4
        simp only [go_sem, hpos]
        refine vr_f (s13 l cap hlen) ?_
        simp only [go_sem]
        refine ⟨inr64 (by omega) (by omega), ?_⟩
        refine vr_f p4 ?_
        simp only [go_sem, missCv, hgt, ints_len]
        refine ⟨inr64 (by omega) (by omega), inr64 (by omega) (by omega), ?_⟩
        refine vr_fg (gok rfl) s12 ?_
        simp only [go_sem]
  · have hb : (decide (l.length ≤ 6) && ptsOk l) = false := by simpa using hv
    simp only [c4, go_sem]
    refine vr_f (s21 l cap) ?_
    rw [hb]
    simp only [go_sem]
    refine vr_f s12 ?_
    simp only [go_sem]

end Go.Cm
end

section
open Go.Proofs
namespace Go.Proofs.Ytodbhbjjeamoaaa
open Go.Cm Go.ChangeShapes Go.WideShapes Go.RowKit

theorem own8 : ownKnob Try.prog.godebug = none := by kernel_rfl

set_option maxRecDepth 100000 in
theorem lifted8 (os : Os) (started : os.Started) (H : Type) (enc : TypeId × Value → H) :
    ReturnsInHanded {} Try.checked os 8 .any (Rows.regionEndsSpec.pre6 enc Try.prog Try.f8 Rows.regionEndsRow.domain false) (Rows.regionEndsSpec.post enc Try.prog Try.f8 false true false false) := by
  refine returnsInHanded_of_change (C := Try.checked) own8 started (by kernel_rfl) Try.func8
    (ChangeSpec.witness6 (enc := enc) (C := Try.checked) false ⟨#[], #[.int .u8 0, .int .u8 0, .int .u8 0], []⟩ 8 (by kernel_rfl) (by kernel_rfl) (by kernel_rfl) (by kernel_rfl)) ?_
  intro W base args ds gs before hval hW _ _
  refine law_contract (d := 4) reg_laid reg_maps reg_full Try.underlying4 (by kernel_rfl) rfl (fun ds hds => ?_) (by kernel_rfl) (fun l hl => ?_) W base args ds gs before hval hW
  · rw [Try.params8] at hds
    match ds, hds with
    | [a, b, c], _ => exact ⟨rfl, rfl, rfl⟩
  · rw [Try.params8] at hl
    obtain ⟨c0, l0, rfl, h0, c1, l1, rfl, h1, c2, l2, rfl, h2, rfl⟩ := hl
    obtain ⟨x0, rfl, r0⟩ := top_int Try.underlying5 h0
    obtain ⟨x1, rfl, r1⟩ := top_int Try.underlying5 h1
    obtain ⟨x2, rfl, r2⟩ := top_int Try.underlying5 h2
    exact law8 x0 x1 x2 r0 r1 r2

theorem regionEnds_holds : Rows.RegionEndsSaid :=
  OpenClaim.holds_of_wide 8 Try.f8 rfl rfl rfl rfl rfl rfl rfl ⟨rfl, rfl, rfl, rfl, rfl⟩ rfl rfl rfl rfl rfl (by kernel_rfl) Try.func8 (by kernel_rfl)
    (of_decide_eq_true (by kernel_rfl)) (by unfold Func.isWrapper; first | (rw [if_pos (by decide +kernel)]; kernel_rfl) | (rw [if_neg (by decide +kernel)]; exact ⟨rfl, rfl⟩))
    (fun os started H enc _ => lifted8 os started H enc)

#print axioms regionEnds_holds
end Go.Proofs.Ytodbhbjjeamoaaa
end
