/-
  Parts of arrays: the statements RegionCells and RegionSizes, their code. Conditions: none.
  Parts of arrays: the statement RegionFills, its code. Conditions: none.
  THE STATEMENT RegionFills: for every input the law returns true, and its arguments read as before. Conditions: none.
-/
import Derived.Test.YtodbhbjjeamoaaaPt2
import Derived.Test.YtodbhbjjeamoaaaRows
import Derived.WalkKit
import Derived.ProofKit
set_option linter.unusedSimpArgs false
set_option linter.unusedVariables false

section
open Go.Proofs
namespace Go.Cm

theorem one_ok (p : Pt) : ptsOk [p] = p.ok := by simp [ptsOk]

set_option maxHeartbeats 4000000 in
set_option maxRecDepth 100000 in
theorem law6 (p : Pt) (n : Int) : Fn Try.prog 6 [.agg p.cv, .int .i64 n] (.bool true) := by
  refine fn_of_code c6_ok rfl rfl fun N => ?_
  have p1 := s27 p n
  by_cases hv : p.ok = true
  · by_cases hz : isSz n = true
    · have hz2 : 0 ≤ n ∧ n ≤ 100 := by simpa [isSz] using hz
      have z1 : ¬ n < 0 := by omega
      have z2 : ¬ 100 < n := by omega
      have hsm := small_of hv hz
      rw [if_pos hv, if_pos hz] at p1
      simp only [c6, go_sem, Pt.cv]
      refine vr_f p1 ?_
      simp only [go_sem, Pt.cv]
      refine vr_freeze (id := 1) (z := 5) (els := [p].map Pt.cv) rfl rfl ?_
      simp only [go_sem, frzL, frzH, frz, frzO, Pt.cv]
      refine vr_f (s17 [p] none (by simp)) ?_
      rw [one_ok, hv]
      simp only [go_sem, z1, z2]
      refine vr_fg (gok rfl) (s29 p n hsm) ?_
      simp only [go_sem]
      refine vr_fg (gok rfl) (s28 _ none none (by rw [cells_length]; have := count_le hsm; omega)) ?_
      simp only [go_sem]
      refine vr_fg (gok rfl) s12 ?_
      simp only [go_sem]
    · have hz2 : ¬ (0 ≤ n ∧ n ≤ 100) := by simpa [isSz] using hz
      rw [if_pos hv, if_neg hz] at p1
      have hD : (decide (n < 0) = false ∧ decide (100 < n) = true) ∨ (decide (n < 0) = true ∧ decide (100 < n) = false) := by
        simp only [decide_eq_false_iff_not, decide_eq_true_eq]; omega
      rcases hD with ⟨z1, z2⟩ | ⟨z1, z2⟩
      all_goals
        simp only [c6, go_sem, Pt.cv]
        refine vr_f p1 ?_
        simp only [go_sem, Pt.cv]
        refine vr_freeze (id := 1) (z := 5) (els := [p].map Pt.cv) rfl rfl ?_
        simp only [go_sem, frzL, frzH, frz, frzO, Pt.cv]
        refine vr_f (s17 [p] none (by simp)) ?_
        rw [one_ok, hv]
        simp only [go_sem, z1, z2]
        refine vr_fg (gok rfl) s12 ?_
        simp only [go_sem]
  · have hv2 : p.ok = false := by simpa using hv
    rw [if_neg hv] at p1
    simp only [c6, go_sem, Pt.cv]
    refine vr_f p1 ?_
    simp only [go_sem, Pt.cv]
    refine vr_freeze (id := 1) (z := 5) (els := [p].map Pt.cv) rfl rfl ?_
    simp only [go_sem, frzL, frzH, frz, frzO, Pt.cv]
    refine vr_f (s17 [p] none (by simp)) ?_
    rw [one_ok, hv2]
    simp only [go_sem]
    refine vr_fg (gok rfl) s12 ?_
    simp only [go_sem]

theorem lst_dn (l : List Pt) : ∀ (j : Nat) (a : Int), (j : Int) ≤ a → (szs l j).reverse.foldl (fun a x => if x = a - 1 then x else a) a = if a = j then (dn l j : Int) else a
  | 0, a, _ => by
    have : szs l 0 = [] := rfl
    rw [this]
    simp only [List.reverse_nil, List.foldl_nil]
    split
    · rename_i h; rw [h]; rfl
    · rfl
  | j + 1, a, ha => by
    rw [szs_succ, List.reverse_append, List.foldl_append, dn_succ]
    by_cases hE : (allM l (j : Nat)).isEmpty = true
    · rw [if_pos hE, if_pos hE]
      simp only [List.reverse_cons, List.reverse_nil, List.nil_append, List.foldl_cons, List.foldl_nil]
      by_cases h1 : (j : Int) = a - 1
      · rw [if_pos h1, lst_dn l j _ (Int.le_refl _), if_pos rfl, if_pos (by omega)]
      · rw [if_neg h1, lst_dn l j a (by omega), if_neg (by omega), if_neg (by omega)]
    · rw [if_neg hE, if_neg hE]
      simp only [List.reverse_nil, List.foldl_nil]
      rw [lst_dn l j a (by omega), if_neg (by omega)]
      split
      · rename_i h; rw [h]
      · rfl

theorem least_dn (l : List Pt) : leastOf l = (dn l 101 : Int) := by
  unfold leastOf lstF
  rw [lst_dn l 101 101 (by omega)]; rfl

theorem filt_len (l : List Pt) (q : Pt → Bool) : (l.filter q).length ≤ l.length := List.length_filter_le _ _

/-- How long a row is that the statements look at: by two questions. -/
theorem look (l : List Pt) (h : ¬ (6 < l.length ∧ l.length ≤ 12)) : (decide ((6 : Int) < (l.length : Nat)) = false ∧ decide (((l.length : Nat) : Int) ≤ 12) = true) ∨ (decide ((6 : Int) < (l.length : Nat)) = true ∧ decide (((l.length : Nat) : Int) ≤ 12) = false) := by
  simp only [decide_eq_false_iff_not, decide_eq_true_eq]; omega

set_option maxHeartbeats 4000000 in
set_option maxRecDepth 100000 in
theorem law10 (l : List Pt) (cap : Option Nat) : Fn Try.prog 10 [.rslc 5 (l.map Pt.cv) cap] (.bool true) := by
  refine fn_of_code c10_ok rfl rfl fun N => ?_
  by_cases hA : 6 < l.length ∧ l.length ≤ 12
  · have a1 : (6 : Int) < (l.length : Nat) := by omega
    have a2 : ((l.length : Nat) : Int) ≤ 12 := by omega
    simp only [c10, go_sem, List.length_map, a1, a2]
    refine vr_f s12 ?_
    simp only [go_sem]
  by_cases hB : 24 < l.length
  · have a1 : (6 : Int) < (l.length : Nat) := by omega
    have a2 : ¬ ((l.length : Nat) : Int) ≤ 12 := by omega
    have a3 : (24 : Int) < (l.length : Nat) := by omega
    simp only [c10, go_sem, List.length_map, a1, a2, a3]
    refine vr_f s12 ?_
    simp only [go_sem]
  have a3 : ¬ (24 : Int) < (l.length : Nat) := by omega
  have hlen : l.length ≤ 1000 := by omega
  have hC := look l hA
  have p1 := s23 l none hlen
  have p2 := s22 l none hlen
  have p3 := s30 l hlen
  have hd := dn_le l 101
  rw [least_dn] at p2
  by_cases hv : ptsOk l = true
  · rw [if_pos hv] at p1 p2 p3
    by_cases h101 : dn l 101 = 101
    · have hz : isSz (dn l 101 : Nat) = false := by rw [h101]; rfl
      rw [if_neg (by rw [hz]; simp)] at p2
      have p4 := s33 l cap hv hlen
      rw [if_pos h101] at p4
      rcases hC with ⟨e1, e2⟩ | ⟨e1, e2⟩
      all_goals
        simp only [c10, go_sem, List.length_map, a3, e1, e2]
        refine vr_f (s13 l cap hlen) ?_
        simp only [go_sem]
        refine vr_f p1 ?_
        simp only [go_sem]
        refine vr_f p2 ?_
        simp only [go_sem]
        refine vr_f p3 ?_
        simp only [go_sem]
        refine vr_f (s16 l none cap hlen) ?_
        simp only [go_sem]
        refine vr_f (s17 l cap hlen) ?_
        simp only [go_sem, hv]
        refine vr_fg (gok rfl) (s31 l cap hv hlen) ?_
        simp only [go_sem]
        refine vr_fg (gok rfl) (s28 _ none none (by have := szs_len l 101; omega)) ?_
        simp only [go_sem]
        refine vr_fg (gok rfl) (s32 l cap hv hlen) ?_
        simp only [go_sem]
        refine vr_fg (gok rfl) (s16 _ none none (by have := filt_len l (fun p => !emp p 101); omega)) ?_
        simp only [go_sem]
        refine vr_f p4 ?_
        simp only [go_sem]
        refine vr_fg (gok rfl) s12 ?_
        simp only [go_sem]
    · have hz : isSz (dn l 101 : Nat) = true := by simp [isSz]; omega
      rw [if_pos hz] at p2
      have p4 := s33 l cap hv hlen
      rw [if_neg h101] at p4
      have hp : (0 : Int) ≤ (dn l 101 : Nat) := by omega
      rcases hC with ⟨e1, e2⟩ | ⟨e1, e2⟩
      all_goals
        simp only [c10, go_sem, List.length_map, a3, e1, e2]
        refine vr_f (s13 l cap hlen) ?_
        simp only [go_sem]
        refine vr_f p1 ?_
        simp only [go_sem]
        refine vr_f p2 ?_
        simp only [go_sem]
        refine vr_f p3 ?_
        simp only [go_sem]
        refine vr_f (s16 l none cap hlen) ?_
        simp only [go_sem]
        refine vr_f (s17 l cap hlen) ?_
        simp only [go_sem, hv]
        refine vr_fg (gok rfl) (s31 l cap hv hlen) ?_
        simp only [go_sem]
        refine vr_fg (gok rfl) (s28 _ none none (by have := szs_len l 101; omega)) ?_
        simp only [go_sem]
        refine vr_fg (gok rfl) (s32 l cap hv hlen) ?_
        simp only [go_sem]
        refine vr_fg (gok rfl) (s16 _ none none (by have := filt_len l (fun p => !emp p 101); omega)) ?_
        simp only [go_sem]
        refine vr_f p4 ?_
        simp only [go_sem, hp]
        refine vr_fg (gok rfl) s12 ?_
        simp only [go_sem]
  · have hv2 : ptsOk l = false := by simpa using hv
    rw [if_neg hv] at p1 p2 p3
    rcases hC with ⟨e1, e2⟩ | ⟨e1, e2⟩
    all_goals
      simp only [c10, go_sem, List.length_map, a3, e1, e2]
      refine vr_f (s13 l cap hlen) ?_
      simp only [go_sem]
      refine vr_f p1 ?_
      simp only [go_sem]
      refine vr_f p2 ?_
      simp only [go_sem]
      refine vr_f p3 ?_
      simp only [go_sem]
      refine vr_f (s16 l none cap hlen) ?_
      simp only [go_sem]
      refine vr_f (s17 l cap hlen) ?_
      simp only [go_sem, hv2]
      refine ⟨inr64 (by omega) (by omega), ?_⟩
      refine vr_fg (gok rfl) s12 ?_
      simp only [go_sem]

end Go.Cm
end

section
open Go.Proofs
namespace Go.Cm

theorem upto_get {xs : Nat → Int} {n k : Nat} (h : k < n) : (ints (upto xs n)).getD k [] = [.int .i64 (xs k)] := by
  simp [ints, upto, List.getD_eq_getElem?_getD, h]

set_option maxHeartbeats 8000000 in
set_option maxRecDepth 100000 in
theorem law5 (l : List Pt) (cap : Option Nat) (n i : Int) : Fn Try.prog 5 [.rslc 5 (l.map Pt.cv) cap, .int .i64 n, .int .i64 i] (.bool true) := by
  refine fn_of_code c5_ok rfl rfl fun N => ?_
  by_cases hA : 6 < l.length ∧ l.length ≤ 12
  · have a1 : (6 : Int) < (l.length : Nat) := by omega
    have a2 : ((l.length : Nat) : Int) ≤ 12 := by omega
    simp only [c5, go_sem, List.length_map, a1, a2]
    refine vr_f s12 ?_
    simp only [go_sem]
  by_cases hB : 24 < l.length
  · have a1 : (6 : Int) < (l.length : Nat) := by omega
    have a2 : ¬ ((l.length : Nat) : Int) ≤ 12 := by omega
    have a3 : (24 : Int) < (l.length : Nat) := by omega
    simp only [c5, go_sem, List.length_map, a1, a2, a3]
    refine vr_f s12 ?_
    simp only [go_sem]
  have a3 : ¬ (24 : Int) < (l.length : Nat) := by omega
  have hlen : l.length ≤ 1000 := by omega
  have hC := look l hA
  have p1 := s24 l none n i hlen
  have p2 := s25 l none n hlen
  by_cases hv : ptsOk l = true
  · by_cases hz : isSz n = true
    · have hz2 : 0 ≤ n ∧ n ≤ 100 := by simpa [isSz] using hz
      have z1 : ¬ n < 0 := by omega
      have z2 : ¬ 100 < n := by omega
      have hch : chk l n = 0 := by simp [chk, hv, hz]
      have hsm := smallsN hv hz2
      rw [if_pos hch] at p1 p2
      have hul : (ints (upto (fun (i : Nat) => whoOf l n i) n.toNat)).length = n.toNat := upto_len
      have hne : ((n.toNat : Int) != n) = false := by simp; omega
      have loop : ∀ (A9 : CV) (A8 : CV), ∀ k : Nat, (k : Int) ≤ n → True := fun _ _ _ _ => trivial
      by_cases hi : 0 ≤ i ∧ i < n
      · have hw := findAt_range (q := fun p => p.has n i) l 0
        have hgi : (ints (upto (fun (i : Nat) => whoOf l n i) n.toNat)).getD i.toNat [] = [.int .i64 (whoOf l n i)] := by
          rw [upto_get (by omega)]
          rw [show ((i.toNat : Nat) : Int) = i by omega]
        have i1 : ¬ i < 0 := by omega
        have i2 : ¬ n ≤ i := by omega
        by_cases hm : whoOf l n i = -1
        · rw [if_pos hi, if_pos hm] at p1
          rw [hm] at hgi
          rcases hC with ⟨e1, e2⟩ | ⟨e1, e2⟩
          all_goals
            simp only [c5, go_sem, List.length_map, a3, e1, e2]
            refine vr_f (s13 l cap hlen) ?_
            simp only [go_sem]
            refine vr_f p1 ?_
            simp only [go_sem]
            refine vr_f p2 ?_
            simp only [go_sem]
            refine vr_f (s16 l none cap hlen) ?_
            simp only [go_sem]
            refine vr_f (s17 l cap hlen) ?_
            simp only [go_sem, hv, z1, z2, hul, hne]
            refine vr_loop (I := fun k : Nat => (k : Int) ≤ n) (inv := fun k => gp [(0, .rslc 5 (l.map Pt.cv) cap), (0, .int .i64 n), (0, .int .i64 i), (5, .int .i64 0), (0, .int .i64 7), (0, .rslc 1 (ints (upto (fun (i : Nat) => whoOf l n i) n.toNat)) none), (1, .int .i64 k)] 143) (hp := fun _ => []) (μ := fun k => n.toNat - k) 0 hz2.1 ?_ rfl ?_
            · simp [forget, gp]
            · intro k hk
              simp only [go_sem, hul, i1, i2]
              refine ⟨fun h5 => ?_, fun h5 => ?_⟩
              · have hgk : (ints (upto (fun (i : Nat) => whoOf l n i) n.toNat)).getD k [] = [.int .i64 (whoOf l n k)] := upto_get (by omega)
                simp only [go_sem, h5]
                refine vr_dreg mixed (by decide) ?_
                simp only [go_sem, hul, hgk]
                refine ⟨⟨by omega, by omega⟩, vd_call (.inl rfl) (s26 l cap n k hsm (by omega) hlen) ?_⟩
                simp only [go_sem]
                exact ⟨inr64 (by omega) (by omega), k + 1, by omega, by omega, by simp [forget]⟩
              · simp only [go_sem, h5, i1, i2, hul, hgi]
                refine ⟨⟨by omega, by omega⟩, ?_⟩
                refine vr_fg (gok rfl) s12 ?_
                simp only [go_sem]
        · rw [if_pos hi, if_neg hm] at p1
          have hwn : ¬ whoOf l n i < 0 := by unfold whoOf at hm ⊢; omega
          rcases hC with ⟨e1, e2⟩ | ⟨e1, e2⟩
          all_goals
            simp only [c5, go_sem, List.length_map, a3, e1, e2]
            refine vr_f (s13 l cap hlen) ?_
            simp only [go_sem]
            refine vr_f p1 ?_
            simp only [go_sem]
            refine vr_f p2 ?_
            simp only [go_sem]
            refine vr_f (s16 l none cap hlen) ?_
            simp only [go_sem]
            refine vr_f (s17 l cap hlen) ?_
            simp only [go_sem, hv, z1, z2, hul, hne]
            refine vr_loop (I := fun k : Nat => (k : Int) ≤ n) (inv := fun k => gp [(0, .rslc 5 (l.map Pt.cv) cap), (0, .int .i64 n), (0, .int .i64 i), (5, .int .i64 (whoOf l n i)), (0, .int .i64 0), (0, .rslc 1 (ints (upto (fun (i : Nat) => whoOf l n i) n.toNat)) none), (1, .int .i64 k)] 143) (hp := fun _ => []) (μ := fun k => n.toNat - k) 0 hz2.1 ?_ rfl ?_
            · simp [forget, gp]
            · intro k hk
              simp only [go_sem, hul, i1, i2]
              refine ⟨fun h5 => ?_, fun h5 => ?_⟩
              · have hgk : (ints (upto (fun (i : Nat) => whoOf l n i) n.toNat)).getD k [] = [.int .i64 (whoOf l n k)] := upto_get (by omega)
                simp only [go_sem, h5]
                refine vr_dreg mixed (by decide) ?_
                simp only [go_sem, hul, hgk]
                refine ⟨⟨by omega, by omega⟩, vd_call (.inl rfl) (s26 l cap n k hsm (by omega) hlen) ?_⟩
                simp only [go_sem]
                exact ⟨inr64 (by omega) (by omega), k + 1, by omega, by omega, by simp [forget]⟩
              · simp only [go_sem, h5, i1, i2, hul, hgi, hwn]
                refine ⟨⟨by omega, by omega⟩, ⟨by omega, by omega⟩, ?_⟩
                refine vr_fg (gok rfl) s12 ?_
                simp only [go_sem]
      · rw [if_neg hi] at p1
        have hI : (decide (i < 0) = false ∧ decide (n ≤ i) = true) ∨ (decide (i < 0) = true ∧ decide ((0 : Int) ≤ 0) = true) := by
          simp only [decide_eq_false_iff_not, decide_eq_true_eq]; omega
        rcases hC with ⟨e1, e2⟩ | ⟨e1, e2⟩
        all_goals
          rcases hI with ⟨i1, i2⟩ | ⟨i1, i2⟩
        all_goals
          simp only [c5, go_sem, List.length_map, a3, e1, e2]
          refine vr_f (s13 l cap hlen) ?_
          simp only [go_sem]
          refine vr_f p1 ?_
          simp only [go_sem]
          refine vr_f p2 ?_
          simp only [go_sem]
          refine vr_f (s16 l none cap hlen) ?_
          simp only [go_sem]
          refine vr_f (s17 l cap hlen) ?_
          simp only [go_sem, hv, z1, z2, hul, hne]
          refine vr_loop (I := fun k : Nat => (k : Int) ≤ n) (inv := fun k => gp [(0, .rslc 5 (l.map Pt.cv) cap), (0, .int .i64 n), (0, .int .i64 i), (5, .int .i64 0), (0, .int .i64 3), (0, .rslc 1 (ints (upto (fun (i : Nat) => whoOf l n i) n.toNat)) none), (1, .int .i64 k)] 143) (hp := fun _ => []) (μ := fun k => n.toNat - k) 0 hz2.1 ?_ rfl ?_
          · simp [forget, gp]
          · intro k hk
            simp only [go_sem, hul, i1, i2]
            refine ⟨fun h5 => ?_, fun h5 => ?_⟩
            · have hgk : (ints (upto (fun (i : Nat) => whoOf l n i) n.toNat)).getD k [] = [.int .i64 (whoOf l n k)] := upto_get (by omega)
              simp only [go_sem, h5]
              refine vr_dreg mixed (by decide) ?_
              simp only [go_sem, hul, hgk]
              refine ⟨⟨by omega, by omega⟩, vd_call (.inl rfl) (s26 l cap n k hsm (by omega) hlen) ?_⟩
              simp only [go_sem]
              exact ⟨inr64 (by omega) (by omega), k + 1, by omega, by omega, by simp [forget]⟩
            · simp only [go_sem, h5]
              refine vr_fg (gok rfl) s12 ?_
              simp only [go_sem]
    · have hz2 : ¬ (0 ≤ n ∧ n ≤ 100) := by simpa [isSz] using hz
      have hch : chk l n = 3 := by simp [chk, hv, hz]
      rw [if_neg (by rw [hch]; omega), hch] at p1 p2
      have hD : (decide (n < 0) = false ∧ decide (100 < n) = true) ∨ (decide (n < 0) = true ∧ decide (100 < n) = false) := by
        simp only [decide_eq_false_iff_not, decide_eq_true_eq]; omega
      rcases hC with ⟨e1, e2⟩ | ⟨e1, e2⟩
      all_goals
        rcases hD with ⟨z1, z2⟩ | ⟨z1, z2⟩
      all_goals
        simp only [c5, go_sem, List.length_map, a3, e1, e2]
        refine vr_f (s13 l cap hlen) ?_
        simp only [go_sem]
        refine vr_f p1 ?_
        simp only [go_sem]
        refine vr_f p2 ?_
        simp only [go_sem]
        refine vr_f (s16 l none cap hlen) ?_
        simp only [go_sem]
        refine vr_f (s17 l cap hlen) ?_
        simp only [go_sem, hv, z1, z2]
        refine vr_fg (gok rfl) s12 ?_
        simp only [go_sem]
  · have hv2 : ptsOk l = false := by simpa using hv
    have hch : chk l n = 2 := by simp [chk, hv2]
    rw [if_neg (by rw [hch]; omega), hch] at p1 p2
    rcases hC with ⟨e1, e2⟩ | ⟨e1, e2⟩
    all_goals
      simp only [c5, go_sem, List.length_map, a3, e1, e2]
      refine vr_f (s13 l cap hlen) ?_
      simp only [go_sem]
      refine vr_f p1 ?_
      simp only [go_sem]
      refine vr_f p2 ?_
      simp only [go_sem]
      refine vr_f (s16 l none cap hlen) ?_
      simp only [go_sem]
      refine vr_f (s17 l cap hlen) ?_
      simp only [go_sem, hv2]
      refine vr_fg (gok rfl) s12 ?_
      simp only [go_sem]

end Go.Cm
end

section
open Go.Proofs
namespace Go.Proofs.Ytodbhbjjeamoaaa
open Go.Cm Go.ChangeShapes Go.WideShapes Go.RowKit

theorem own5 : ownKnob Try.prog.godebug = none := by kernel_rfl

set_option maxRecDepth 100000 in
theorem lifted5 (os : Os) (started : os.Started) (H : Type) (enc : TypeId × Value → H) :
    ReturnsInHanded {} Try.checked os 5 .any (Rows.regionFillsSpec.pre6 enc Try.prog Try.f5 Rows.regionFillsRow.domain false) (Rows.regionFillsSpec.post enc Try.prog Try.f5 false true false false) := by
  refine returnsInHanded_of_change (C := Try.checked) own5 started (by kernel_rfl) Try.func5
    (ChangeSpec.witness6 (enc := enc) (C := Try.checked) false ⟨#[], #[.slice none 0 0, .int .i64 0, .int .i64 0], []⟩ 8 (by kernel_rfl) (by kernel_rfl) (by kernel_rfl) (by kernel_rfl)) ?_
  intro W base args ds gs before hval hW _ _
  refine law_contract (d := 4) reg_laid reg_maps reg_full Try.underlying4 (by kernel_rfl) rfl (fun ds hds => ?_) (by kernel_rfl) (fun l hl => ?_) W base args ds gs before hval hW
  · rw [Try.params5] at hds
    match ds, hds with
    | [a, b, c], _ => exact ⟨rfl, rfl, rfl⟩
  · rw [Try.params5] at hl
    obtain ⟨c0, l0, rfl, h0, c1, l1, rfl, h1, c2, l2, rfl, h2, rfl⟩ := hl
    obtain ⟨x0, rfl⟩ := top_parts h0
    obtain ⟨x1, rfl, _⟩ := top_int Try.underlying3 h1
    obtain ⟨x2, rfl, _⟩ := top_int Try.underlying3 h2
    exact law5 x0 none x1 x2

theorem regionFills_holds : Rows.RegionFillsSaid :=
  OpenClaim.holds_of_wide 5 Try.f5 rfl rfl rfl rfl rfl rfl rfl ⟨rfl, rfl, rfl, rfl, rfl⟩ rfl rfl rfl rfl rfl (by kernel_rfl) Try.func5 (by kernel_rfl)
    (of_decide_eq_true (by kernel_rfl)) (by unfold Func.isWrapper; first | (rw [if_pos (by decide +kernel)]; kernel_rfl) | (rw [if_neg (by decide +kernel)]; exact ⟨rfl, rfl⟩))
    (fun os started H enc _ => lifted5 os started H enc)

#print axioms regionFills_holds
end Go.Proofs.Ytodbhbjjeamoaaa
end
