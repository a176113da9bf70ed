/-
  The plain law of the splitting of types. Conditions: none.
-/
import Derived.Test.YtghkeneolbkliaaGreatDoorKTyW
set_option linter.unusedSimpArgs false
set_option linter.unusedVariables false

section
open Go.Proofs
namespace Go.Cm

theorem ptn_pos : ∀ (k : Nat) (l : List UInt8), 1 ≤ (ptn k l).1
  | 0, l => by simp [ptn]
  | k + 1, l => by
    rw [ptn]
    split
    · simp
    · simp
theorem pt_pos (l : List UInt8) : 1 ≤ (pt l).1 := ptn_pos _ _

theorem pts_some {l w p : List UInt8} (h : inn l = some (w, p)) : pts l = if pts p = 0 then 0 else pts p + 1 := by
  have hp := pt_some h
  have := pt_pos p
  unfold pts
  rw [hp]
  simp only
  split
  · rw [if_neg (by omega)]
  · simp

theorem pts_none {l : List UInt8} (h : inn l = none) : pts l = if l = wInt ∨ l = wBool then 1 else 0 := by
  unfold pts
  rw [pt_none h]

theorem isB_split {l : List UInt8} (h : 1 < l.length) (hb : isB l = true) : l = 91 :: (mid l ++ [93]) := by
  simp only [isB, Bool.and_eq_true, beq_iff_eq] at hb
  obtain ⟨a, t, rfl⟩ : ∃ a t, l = a :: t := by
    cases l with
    | nil => simp at h
    | cons a t => exact ⟨a, t, rfl⟩
  obtain ⟨m, z, rfl⟩ : ∃ m z, t = m ++ [z] := by
    have : t ≠ [] := by intro e; simp [e] at h
    exact ⟨t.dropLast, t.getLast this, (List.dropLast_concat_getLast this).symm⟩
  have hm : mid (a :: (m ++ [z])) = m := by simp [mid]
  rw [hm]
  have h1 := hb.1
  have h2 := hb.2
  simp [List.getD_eq_getElem?_getD] at h1 h2
  have e1 : a = 91 := UInt8.toNat_inj.1 (by simpa using (by omega : a.toNat = 91))
  have e2 : z = 93 := UInt8.toNat_inj.1 (by simpa using (by omega : z.toNat = 93))
  rw [e1, e2]

theorem take7 {l : List UInt8} (h : l.take 7 = strm) : l = strm ++ l.drop 7 := by
  rw [← h, List.take_append_drop]

theorem cnt_app (a b : List UInt8) : cnt (a ++ b) = cnt a + cnt b := by simp [cnt]
theorem cnt_mid {l : List UInt8} (h : 1 < l.length) (hb : isB l = true) : cnt l = cnt (mid l) + 1 := by
  have := isB_split h hb
  rw [this, show (91 : UInt8) :: (mid l ++ [93]) = [91] ++ mid l ++ [93] by rfl, cnt_app, cnt_app]
  rw [show mid ([91] ++ mid l ++ [93]) = mid l by simp [mid]]
  rw [show cnt [91] = 1 by decide, show cnt [93] = 0 by decide]
  omega
theorem cnt_strm {l : List UInt8} (h : l.take 7 = strm) : cnt l = cnt (l.drop 7) + 1 := by
  have e := take7 h
  have : cnt l = cnt strm + cnt (l.drop 7) := by rw [← cnt_app, ← e]
  rw [this, show cnt strm = 1 by decide]
  omega

theorem inn_P {l : List UInt8} (h : 1 < l.length) (hb : isB l = true) : inn l = some (wArr, mid l) := by
  have hs := isB_split h hb
  have : ¬ l.take 7 = strm := by
    rw [hs]; intro e; simp [strm] at e
  rw [inn, if_neg this, if_pos ⟨h, hb⟩]
theorem inn_Q {l : List UInt8} (h : l.take 7 = strm) : inn l = some (wStr, l.drop 7) := by rw [inn, if_pos h]

theorem pts_nil : pts [] = 0 := by decide

/-- What the reference says of a text is what the number of its parts says. -/
theorem law (k : Nat) : ∀ l : List UInt8, l.length ≤ k → (pts l ≠ 0 → cnt l + 1 = pts l) ∧ isF (k + 1) l = decide (pts l ≠ 0 ∧ pts l ≤ 20) ∧ (pts l ≠ 0 → spl (isF k) l = match inn l with
    | some (w, p) => (w, p, isF k p)
    | none => (l, [], true)) := by
  induction k with
  | zero =>
    intro l hl
    have : l = [] := by cases l with | nil => rfl | cons a t => simp at hl
    subst this
    refine ⟨fun h => absurd pts_nil h, ?_, fun h => absurd pts_nil h⟩
    decide
  | succ k ih =>
    intro l hl
    by_cases h1 : l = wInt ∨ l = wBool
    · have hi : inn l = none := by rcases h1 with rfl | rfl <;> decide
      have hp : pts l = 1 := by rw [pts_none hi, if_pos h1]
      have hc : cnt l = 0 := by rcases h1 with rfl | rfl <;> decide
      have hs : spl (isF (k + 1)) l = (l, [], true) := by rw [spl, if_pos h1]
      refine ⟨fun _ => by omega, ?_, fun _ => by rw [hi, hs]⟩
      rw [isF, hs, hp, hc]; rfl
    · by_cases hP : 2 < l.length ∧ isB l = true
      · have hi := inn_P (by omega) hP.2
        have hp := pts_some hi
        have hc := cnt_mid (by omega) hP.2
        have hs : spl (isF (k + 1)) l = (wArr, mid l, isF (k + 1) (mid l)) := by rw [spl, if_neg h1, if_pos hP]
        obtain ⟨i1, i2, _⟩ := ih (mid l) (by have := inn_lt hi; omega)
        have key : pts l ≠ 0 → cnt l + 1 = pts l := fun h => by
          rw [hp] at h ⊢
          split at h
          · exact absurd rfl h
          · rename_i h0
            rw [if_neg h0, hc, i1 h0]
        refine ⟨key, ?_, fun _ => by rw [hi, hs]⟩
        rw [isF, hs]
        simp only [i2]
        rw [← Bool.decide_and]
        refine decide_eq_decide.2 ⟨fun ⟨⟨h2, h3⟩, h4⟩ => ?_, fun ⟨h2, h3⟩ => ?_⟩
        · rw [if_neg h2] at hp
          have := i1 h2
          omega
        · have := key h2
          by_cases h0 : pts (mid l) = 0
          · rw [if_pos h0] at hp; exact absurd hp h2
          · rw [if_neg h0] at hp
            exact ⟨⟨h0, by omega⟩, by omega⟩
      · by_cases hQ : 7 < l.length ∧ l.take 7 = strm
        · have hi := inn_Q hQ.2
          have hp := pts_some hi
          have hc := cnt_strm hQ.2
          have hs : spl (isF (k + 1)) l = (wStr, l.drop 7, isF (k + 1) (l.drop 7)) := by rw [spl, if_neg h1, if_neg hP, if_pos hQ]
          obtain ⟨i1, i2, _⟩ := ih (l.drop 7) (by have := inn_lt hi; omega)
          have key : pts l ≠ 0 → cnt l + 1 = pts l := fun h => by
            rw [hp] at h ⊢
            split at h
            · exact absurd rfl h
            · rename_i h0
              rw [if_neg h0, hc, i1 h0]
          refine ⟨key, ?_, fun _ => by rw [hi, hs]⟩
          rw [isF, hs]
          simp only [i2]
          rw [← Bool.decide_and]
          refine decide_eq_decide.2 ⟨fun ⟨⟨h2, h3⟩, h4⟩ => ?_, fun ⟨h2, h3⟩ => ?_⟩
          · rw [if_neg h2] at hp
            have := i1 h2
            omega
          · have := key h2
            by_cases h0 : pts (l.drop 7) = 0
            · rw [if_pos h0] at hp; exact absurd hp h2
            · rw [if_neg h0] at hp
              exact ⟨⟨h0, by omega⟩, by omega⟩
        · have hs : spl (isF (k + 1)) l = ([], [], false) := by rw [spl, if_neg h1, if_neg hP, if_neg hQ]
          have h0 : pts l = 0 := by
            cases hi : inn l with
            | none => rw [pts_none hi, if_neg h1]
            | some x =>
              obtain ⟨w, p⟩ := x
              rw [pts_some hi, if_pos]
              unfold inn at hi
              split at hi
              · rename_i h7
                simp at hi
                have hl7 : l.length ≤ 7 := by
                  rcases Nat.lt_or_ge 7 l.length with h | h
                  · exact absurd ⟨h, h7⟩ hQ
                  · exact h
                rw [← hi.2, List.drop_eq_nil_of_le hl7]
                exact pts_nil
              · split at hi
                · rename_i h2
                  simp at hi
                  have hl2 : l.length ≤ 2 := by
                    rcases Nat.lt_or_ge 2 l.length with h | h
                    · exact absurd ⟨h, h2.2⟩ hP
                    · exact h
                  rw [← hi.2, mid, List.drop_eq_nil_of_le (by simp; omega)]
                  exact pts_nil
                · cases hi
          refine ⟨fun h => absurd h0 h, ?_, fun h => absurd h0 h⟩
          rw [isF, hs, h0]; rfl

end Go.Cm
end
