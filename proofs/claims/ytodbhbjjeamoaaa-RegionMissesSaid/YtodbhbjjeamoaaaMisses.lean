/-
  Parts of arrays: the statement RegionMisses, its code. Conditions: none.
  THE STATEMENT RegionMisses: for every input the law returns true, and its arguments read as before. Conditions: none.
-/
import Derived.Test.YtodbhbjjeamoaaaPt2
import Derived.Test.YtodbhbjjeamoaaaRows
import Derived.WalkKit
import Derived.ProofKit

section
open Go.Proofs
namespace Go.Cm

/-- Rows that the statements look at: short ones, or ones that are too long. -/
structure Look (l : List Pt) : Prop where
  le : l.length ≤ 24
  no : ¬ (6 < l.length ∧ l.length ≤ 12)

set_option maxHeartbeats 4000000 in
set_option maxRecDepth 100000 in
theorem law3 (l : List Pt) (cap : Option Nat) (n : Int) : Fn Try.prog 3 [.rslc 5 (l.map Pt.cv) cap, .int .i64 n] (.bool true) := by
  refine fn_of_code c3_ok rfl rfl fun N => ?_
  by_cases hA : 6 < l.length ∧ l.length ≤ 12
  · have a1 : (6 : Int) < (l.length : Nat) := by omega
    have a2 : ((l.length : Nat) : Int) ≤ 12 := by omega
    simp only [c3, go_sem, List.length_map, a1, a2]
    refine vr_f s12 ?_
    simp only [go_sem]
  by_cases hB : 24 < l.length
  · have a1 : (6 : Int) < (l.length : Nat) := by omega
    have a2 : ¬ ((l.length : Nat) : Int) ≤ 12 := by omega
    have a3 : (24 : Int) < (l.length : Nat) := by omega
    simp only [c3, go_sem, List.length_map, a1, a2, a3]
    refine vr_f s12 ?_
    simp only [go_sem]
  have a3 : ¬ (24 : Int) < (l.length : Nat) := by omega
  have hlen : l.length ≤ 1000 := by omega
  have hC : (decide ((6 : Int) < (l.length : Nat)) = false ∧ decide (((l.length : Nat) : Int) ≤ 12) = true) ∨ (decide ((6 : Int) < (l.length : Nat)) = true ∧ decide (((l.length : Nat) : Int) ≤ 12) = false) := by
    simp only [decide_eq_false_iff_not, decide_eq_true_eq]; omega
  have p1 := s14 l none n hlen
  have p2 := s15 l none n hlen
  by_cases hv : ptsOk l = true
  · have hv' : (!ptsOk l) = false := by rw [hv]; rfl
    by_cases hz : isSz n = true
    · have hz2 : 0 ≤ n ∧ n ≤ 100 := by simpa [isSz] using hz
      have z1 : ¬ n < 0 := by omega
      have z2 : ¬ 100 < n := by omega
      have hch : chk l n = 0 := by simp [chk, hv, hz]
      rw [if_pos hch] at p1 p2
      have hcell : ∀ m ∈ allM l n, ∃ a c d, m = missCv a c d := fun m h => ⟨n, allM_cell l n m h⟩
      have hml : (allM l n).length ≤ 1000 := by rw [allM_eq]; have := mss_len l n (n.toNat + 201); omega
      cases hf : firstM l (101 - n).toNat n with
      | none =>
        rw [hf] at p2
        rcases hC with ⟨e1, e2⟩ | ⟨e1, e2⟩
        all_goals
          simp only [c3, go_sem, List.length_map, a3, e1, e2]
          refine vr_f (s13 l cap hlen) ?_
          simp only [go_sem]
          refine vr_f p1 ?_
          simp only [go_sem]
          refine vr_f p2 ?_
          simp only [go_sem, noM]
          refine vr_f (s16 l none cap hlen) ?_
          simp only [go_sem]
          refine vr_f (s17 l cap hlen) ?_
          simp only [go_sem, hv, z1, z2]
          refine vr_fg (gok rfl) (s19a l cap n (smallsN hv hz2) hz2 hlen) ?_
          simp only [go_sem]
          refine vr_fg (gok rfl) (s18 _ hcell none none hml) ?_
          simp only [go_sem]
          refine vr_f (s20 l cap n hv ⟨by omega, by omega⟩ hlen) ?_
          rw [hf]
          simp only [go_sem, optM, noM]
          refine vr_fg (gok rfl) s12 ?_
          simp only [go_sem]
      | some m =>
        rw [hf] at p2
        obtain ⟨x, c, d, rfl⟩ := firstM_cell l _ _ _ hf
        rcases hC with ⟨e1, e2⟩ | ⟨e1, e2⟩
        all_goals
          simp only [c3, go_sem, List.length_map, a3, e1, e2]
          refine vr_f (s13 l cap hlen) ?_
          simp only [go_sem]
          refine vr_f p1 ?_
          simp only [go_sem]
          refine vr_f p2 ?_
          simp only [go_sem, missCv]
          refine vr_f (s16 l none cap hlen) ?_
          simp only [go_sem]
          refine vr_f (s17 l cap hlen) ?_
          simp only [go_sem, hv, z1, z2]
          refine vr_fg (gok rfl) (s19a l cap n (smallsN hv hz2) hz2 hlen) ?_
          simp only [go_sem]
          refine vr_fg (gok rfl) (s18 _ hcell none none hml) ?_
          simp only [go_sem]
          refine vr_f (s20 l cap n hv ⟨by omega, by omega⟩ hlen) ?_
          rw [hf]
          simp only [go_sem, optM, missCv]
          refine vr_fg (gok rfl) s12 ?_
          simp only [go_sem]
    · have hz2 : ¬ (0 ≤ n ∧ n ≤ 100) := by simpa [isSz] using hz
      have hch : chk l n = 3 := by simp [chk, hv, hz]
      rw [if_neg (by rw [hch]; omega), hch] at p1 p2
      have hD : (decide (n < 0) = false ∧ decide (100 < n) = true) ∨ (decide (n < 0) = true ∧ decide (100 < n) = false) := by
        simp only [decide_eq_false_iff_not, decide_eq_true_eq]; omega
      rcases hC with ⟨e1, e2⟩ | ⟨e1, e2⟩
      all_goals
        rcases hD with ⟨z1, z2⟩ | ⟨z1, z2⟩
      all_goals
        simp only [c3, go_sem, List.length_map, a3, e1, e2]
        refine vr_f (s13 l cap hlen) ?_
        simp only [go_sem]
        refine vr_f p1 ?_
        simp only [go_sem]
        refine vr_f p2 ?_
        simp only [go_sem, noM]
        refine vr_f (s16 l none cap hlen) ?_
        simp only [go_sem]
        refine vr_f (s17 l cap hlen) ?_
        simp only [go_sem, hv, z1, z2]
        refine vr_fg (gok rfl) s12 ?_
        simp only [go_sem]
  · have hv2 : ptsOk l = false := by simpa using hv
    have hch : chk l n = 2 := by simp [chk, hv2]
    rw [if_neg (by rw [hch]; omega), hch] at p1 p2
    rcases hC with ⟨e1, e2⟩ | ⟨e1, e2⟩
    all_goals
      simp only [c3, go_sem, List.length_map, a3, e1, e2]
      refine vr_f (s13 l cap hlen) ?_
      simp only [go_sem]
      refine vr_f p1 ?_
      simp only [go_sem]
      refine vr_f p2 ?_
      simp only [go_sem, noM]
      refine vr_f (s16 l none cap hlen) ?_
      simp only [go_sem]
      refine vr_f (s17 l cap hlen) ?_
      simp only [go_sem, hv2]
      refine vr_fg (gok rfl) s12 ?_
      simp only [go_sem]

end Go.Cm
end

section
open Go.Proofs
namespace Go.Proofs.Ytodbhbjjeamoaaa
open Go.Cm Go.ChangeShapes Go.WideShapes Go.RowKit

theorem own3 : ownKnob Try.prog.godebug = none := by kernel_rfl

set_option maxRecDepth 100000 in
theorem lifted3 (os : Os) (started : os.Started) (H : Type) (enc : TypeId × Value → H) :
    ReturnsInHanded {} Try.checked os 3 .any (Rows.regionMissesSpec.pre6 enc Try.prog Try.f3 Rows.regionMissesRow.domain false) (Rows.regionMissesSpec.post enc Try.prog Try.f3 false true false false) := by
  refine returnsInHanded_of_change (C := Try.checked) own3 started (by kernel_rfl) Try.func3
    (ChangeSpec.witness6 (enc := enc) (C := Try.checked) false ⟨#[], #[.slice none 0 0, .int .i64 0], []⟩ 8 (by kernel_rfl) (by kernel_rfl) (by kernel_rfl) (by kernel_rfl)) ?_
  intro W base args ds gs before hval hW _ _
  refine law_contract (d := 4) reg_laid reg_maps reg_full Try.underlying4 (by kernel_rfl) rfl (fun ds hds => ?_) (by kernel_rfl) (fun l hl => ?_) W base args ds gs before hval hW
  · rw [Try.params3] at hds
    match ds, hds with
    | [a, b], _ => exact ⟨rfl, rfl, rfl⟩
  · rw [Try.params3] at hl
    obtain ⟨c1, l1, rfl, h1, c2, l2, rfl, h2, rfl⟩ := hl
    obtain ⟨pts, rfl⟩ := top_parts h1
    obtain ⟨n, rfl, _⟩ := top_int Try.underlying3 h2
    exact law3 pts none n

theorem regionMisses_holds : Rows.RegionMissesSaid :=
  OpenClaim.holds_of_wide 3 Try.f3 rfl rfl rfl rfl rfl rfl rfl ⟨rfl, rfl, rfl, rfl, rfl⟩ rfl rfl rfl rfl rfl (by kernel_rfl) Try.func3 (by kernel_rfl)
    (of_decide_eq_true (by kernel_rfl)) (by unfold Func.isWrapper; first | (rw [if_pos (by decide +kernel)]; kernel_rfl) | (rw [if_neg (by decide +kernel)]; exact ⟨rfl, rfl⟩))
    (fun os started H enc _ => lifted3 os started H enc)

#print axioms regionMisses_holds
end Go.Proofs.Ytodbhbjjeamoaaa
end
