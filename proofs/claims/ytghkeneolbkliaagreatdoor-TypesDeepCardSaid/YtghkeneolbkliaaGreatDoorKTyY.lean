/-
  The walks of the two laws: TypesSplit, TypesDeep. Conditions: none.
-/
import Derived.Test.YtghkeneolbkliaaGreatDoorKTyX
import Derived.Test.YtghkeneolbkliaaGreatDoorKTyH
set_option linter.unusedSimpArgs false
set_option linter.unusedVariables false

section
open Go.Proofs
namespace Go.Cm

theorem t3s (l : List UInt8) (hl : l.length ≤ 300) : Fn Tryz.prog 3 [S l] (.bool true) := by
  obtain ⟨k, hk⟩ : ∃ k, l.length = k := ⟨_, rfl⟩
  replace hl : l.length ≤ 100000 := by omega
  obtain ⟨a1, a2, a3⟩ := law k l (by omega)
  refine fn_of_code c3_ok rfl rfl fun N => ?_
  simp (config := {contextual := true}) only [c3, go_sem]
  refine ⟨fun h => vr_f fknown (by simp only [go_sem]), fun h => ?_⟩
  refine vr_f (t6 l hl) ?_
  by_cases hb : pts l = 0 ∨ 20 < pts l
  · have hf : isF (k + 1) l = false := by
      rw [a2]; exact decide_eq_false (by omega)
    rw [if_pos hb]
    simp (config := {contextual := true}) only [go_sem]
    refine vr_f (t7 l hl) ?_
    rw [if_pos hb]
    simp (config := {contextual := true}) only [go_sem]
    refine vr_f (t8 k l (by omega) hl) ?_
    rw [hf]
    simp (config := {contextual := true}) only [go_sem]
    refine vr_fg (.inr ⟨_, _, rfl, rfl⟩) fknown ?_
    simp (config := {contextual := true}) only [go_sem]
  · have hp : pts l ≠ 0 := by omega
    have hf : isF (k + 1) l = true := by
      rw [a2]; exact decide_eq_true (by omega)
    rw [if_neg hb]
    have hc := a1 hp
    have hs := a3 hp
    have h10 := t10 l hl
    rw [hc] at h10
    cases hi : inn l with
    | some x =>
      obtain ⟨w, p⟩ := x
      rw [hi] at hs
      simp only at hs
      simp (config := {contextual := true}) only [go_sem]
      refine vr_f (t7 l hl) ?_
      rw [if_neg hb]
      simp (config := {contextual := true}) only [go_sem]
      refine vr_f (t8 k l (by omega) hl) ?_
      rw [hf]
      simp (config := {contextual := true}) only [go_sem]
      refine vr_f (t9 k l (by omega) hl) ?_
      rw [hs]
      simp (config := {contextual := true}) only [go_sem, splV]
      refine vr_fg (.inr ⟨_, _, rfl, rfl⟩) h10 ?_
      simp (config := {contextual := true}) only [go_sem, beq_self_eq_true]
      refine vr_fg (.inr ⟨_, _, rfl, rfl⟩) fknown ?_
      simp (config := {contextual := true}) only [go_sem]
    | none =>
      rw [hi] at hs
      simp only at hs
      simp (config := {contextual := true}) only [go_sem]
      refine vr_f (t7 l hl) ?_
      rw [if_neg hb]
      simp (config := {contextual := true}) only [go_sem]
      refine vr_f (t8 k l (by omega) hl) ?_
      rw [hf]
      simp (config := {contextual := true}) only [go_sem]
      refine vr_f (t9 k l (by omega) hl) ?_
      rw [hs]
      simp (config := {contextual := true}) only [go_sem, splV]
      refine vr_fg (.inr ⟨_, _, rfl, rfl⟩) h10 ?_
      simp (config := {contextual := true}) only [go_sem, beq_self_eq_true]
      refine vr_fg (.inr ⟨_, _, rfl, rfl⟩) fknown ?_
      simp (config := {contextual := true}) only [go_sem]

theorem t3 (l : List UInt8) : Fn Tryz.prog 3 [S l] (.bool true) := by
  by_cases hl : l.length ≤ 300
  · exact t3s l hl
  · refine fn_of_code c3_ok rfl rfl fun N => ?_
    have d1 : (300 < (l.length : Int)) = True := eq_true (by omega)
    simp (config := {contextual := true}) only [c3, go_sem, d1, decide_true]
    refine vr_f fknown ?_
    simp only [go_sem]

/-! ### TypesDeep -/

def num (b : UInt8) (l : List UInt8) : Nat := (l.filter (· == b)).length
theorem num_app (b : UInt8) (x y : List UInt8) : num b (x ++ y) = num b x + num b y := by simp [num]

/-- What is balanced in a type. -/
theorem bal (k : Nat) : ∀ l : List UInt8, l.length ≤ k → pts l ≠ 0 → num 91 l = num 93 l ∧ num 32 l = num 115 l := by
  induction k with
  | zero =>
    intro l hl h
    have : l = [] := by cases l with | nil => rfl | cons a t => simp at hl
    subst this
    exact absurd pts_nil h
  | succ k ih =>
    intro l hl h
    cases hi : inn l with
    | none =>
      rw [pts_none hi] at h
      split at h
      · rename_i h1
        rcases h1 with rfl | rfl <;> decide
      · exact absurd rfl h
    | some x =>
      obtain ⟨w, p⟩ := x
      have hlt := inn_lt hi
      have hp : pts p ≠ 0 := by
        intro h0
        rw [pts_some hi, if_pos h0] at h
        exact h rfl
      obtain ⟨i1, i2⟩ := ih p (by omega) hp
      unfold inn at hi
      split at hi
      · rename_i h7
        simp only [Option.some.injEq, Prod.mk.injEq] at hi
        have e := take7 h7
        rw [hi.2] at e
        rw [e]
        simp only [num_app]
        rw [show num 91 strm = 0 by decide, show num 93 strm = 0 by decide, show num 32 strm = 1 by decide, show num 115 strm = 1 by decide]
        omega
      · split at hi
        · rename_i h2
          simp only [Option.some.injEq, Prod.mk.injEq] at hi
          have e := isB_split h2.1 h2.2
          rw [hi.2, show (91 : UInt8) :: (p ++ [93]) = [91] ++ p ++ [93] by rfl] at e
          rw [e]
          simp only [num_app]
          rw [show num 91 [91] = 1 by decide, show num 93 [91] = 0 by decide, show num 32 [91] = 0 by decide, show num 115 [91] = 0 by decide, show num 91 [93] = 0 by decide, show num 93 [93] = 1 by decide, show num 32 [93] = 0 by decide, show num 115 [93] = 0 by decide]
          omega
        · cases hi

theorem out1 {l : List UInt8} (h : pts l ≠ 0) : pts (l ++ [32]) = 0 := by
  by_cases h0 : pts (l ++ [32]) = 0
  · exact h0
  · have a := bal _ _ (Nat.le_refl _) h
    have b := bal _ _ (Nat.le_refl _) h0
    simp only [num_app, show num 32 [32] = 1 by decide, show num 115 [32] = 0 by decide] at b
    omega
theorem out2 {l : List UInt8} (h : pts l ≠ 0) : pts ([91] ++ l) = 0 := by
  by_cases h0 : pts ([91] ++ l) = 0
  · exact h0
  · have a := bal _ _ (Nat.le_refl _) h
    have b := bal _ _ (Nat.le_refl _) h0
    simp only [num_app, show num 91 [91] = 1 by decide, show num 93 [91] = 0 by decide] at b
    omega
theorem out3 {l : List UInt8} (h : pts l ≠ 0) : pts (l ++ [93]) = 0 := by
  by_cases h0 : pts (l ++ [93]) = 0
  · exact h0
  · have a := bal _ _ (Nat.le_refl _) h
    have b := bal _ _ (Nat.le_refl _) h0
    simp only [num_app, show num 91 [93] = 0 by decide, show num 93 [93] = 1 by decide] at b
    omega
theorem out4 {l : List UInt8} (h : pts l ≠ 0) : pts ([32] ++ l) = 0 := by
  by_cases h0 : pts ([32] ++ l) = 0
  · exact h0
  · have a := bal _ _ (Nat.le_refl _) h
    have b := bal _ _ (Nat.le_refl _) h0
    simp only [num_app, show num 32 [32] = 1 by decide, show num 115 [32] = 0 by decide] at b
    omega

theorem inn_arr (l : List UInt8) : inn ([91] ++ l ++ [93]) = some (wArr, l) := by
  have h1 : isB ([91] ++ l ++ [93]) = true := by
    simp [isB, List.getD_eq_getElem?_getD]
  have := inn_P (l := [91] ++ l ++ [93]) (by simp) h1
  rw [this]
  simp [mid]
theorem inn_str (l : List UInt8) : inn (strm ++ l) = some (wStr, l) := by
  have := inn_Q (l := strm ++ l) (by simp [strm])
  rw [this]
  simp [strm]
theorem pts_arr {l : List UInt8} (h : pts l ≠ 0) : pts ([91] ++ l ++ [93]) = pts l + 1 := by rw [pts_some (inn_arr l), if_neg h]
theorem pts_str {l : List UInt8} (h : pts l ≠ 0) : pts (strm ++ l) = pts l + 1 := by rw [pts_some (inn_str l), if_neg h]

theorem binS_add (l m : List UInt8) : binS .add ⟨⟨l⟩⟩ ⟨⟨m⟩⟩ = some (.ile ((l.length + m.length : Nat) : Int) 9223372036854775807, .str ⟨⟨l ++ m⟩⟩) := by
  have : (⟨⟨l⟩⟩ : ByteArray) ++ ⟨⟨m⟩⟩ = ⟨⟨l ++ m⟩⟩ := by
    apply ByteArray.ext
    simp
  simp only [binS, this]
  rfl
attribute [go_sem] binS_add
end Go.Cm
end
