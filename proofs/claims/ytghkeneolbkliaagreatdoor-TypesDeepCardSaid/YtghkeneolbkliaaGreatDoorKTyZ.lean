/-
  The walk of the law TypesDeep. Conditions: none.
-/
import Derived.Test.YtghkeneolbkliaaGreatDoorKTyY
set_option linter.unusedSimpArgs false
set_option linter.unusedVariables false

section
open Go.Proofs
namespace Go.Cm

/-- Bytes, as the cells of a row. -/
def u8s (bs : List Nat) : List (List CV) := bs.map fun (b : Nat) => [.int .u8 b]
theorem u8s_len (bs : List Nat) : (u8s bs).length = bs.length := by simp [u8s]
theorem u8s_get {bs : List Nat} {i : Nat} (h : i < bs.length) : (u8s bs).getD i [] = [.int .u8 (bs[i] : Nat)] := by
  simp [u8s, List.getD_eq_getElem?_getD, List.getElem?_eq_getElem h]

theorem one_int : pts wInt = 1 := by decide
theorem one_bool : pts wBool = 1 := by decide

set_option maxRecDepth 20000 in
set_option maxHeartbeats 4000000 in
theorem t4 (bs : List Nat) (cap : Option Nat) : Fn Tryz.prog 4 [.rslc 1 (u8s bs) cap] (.bool true) := by
  refine fn_of_code c4_ok rfl rfl fun N => ?_
  obtain ⟨s0, hs0⟩ : ∃ s0, (if ((bs.length : Int).tmod 2 == 1) = true then wBool else wInt) = s0 := ⟨_, rfl⟩
  have hp0 : pts s0 = 1 ∧ s0.length ≤ 4 := by
    rw [← hs0]; split
    · exact ⟨one_bool, by decide⟩
    · exact ⟨one_int, by decide⟩
  simp (config := {contextual := true}) only [c4, go_sem, u8s_len]
  refine ⟨by decide, fun h => ?_, fun h => ?_⟩
  all_goals
    rw [h] at hs0
    refine vr_loop (I := fun s : Nat × List UInt8 => s.1 ≤ 18 ∧ s.1 ≤ bs.length ∧ pts s.2 = s.1 + 1 ∧ s.2.length ≤ 4 + 7 * s.1) (inv := fun s => gp [(0, .rslc 1 (u8s bs) cap), (2, S s.2), (0, .int .i64 s.1)] 147) (hp := fun _ => []) (μ := fun s => 18 - s.1) (0, s0) (by simp; omega) ?_ rfl ?_
    · simp [forget, gp, ← hs0, wInt, wBool]
    · rintro ⟨i, r⟩ ⟨h1, h2, h3, h4⟩
      simp only at h1 h2 h3 h4
      simp (config := {contextual := true}) only [go_sem, u8s_len]
      refine ⟨fun h5 => ⟨fun h6 => ?_, fun h6 => ?_⟩, fun h5 => ?_⟩
      · have hq : ¬ (pts r = 0 ∨ 20 < pts r) := by omega
        refine vr_f (t7 r (by omega)) ?_
        rw [if_neg hq]
        have hlt : i < bs.length := by omega
        have hg := u8s_get hlt
        simp (config := {contextual := true}) only [go_sem, u8s_len, hg, Int.toNat_natCast]
        obtain ⟨na, hna⟩ : ∃ na, (91 :: (r ++ [93]) : List UInt8) = na := ⟨_, rfl⟩
        obtain ⟨ns, hns⟩ : ∃ ns, (115 :: 116 :: 114 :: 101 :: 97 :: 109 :: 32 :: r : List UInt8) = ns := ⟨_, rfl⟩
        have pa : pts na = i + 2 := by rw [← hna]; exact (pts_arr (by omega)).trans (by omega)
        have ps : pts ns = i + 2 := by rw [← hns]; exact (pts_str (by omega)).trans (by omega)
        have ia : inn na = some ([91, 93], r) := by rw [← hna]; exact inn_arr r
        have is : inn ns = some ([115, 116, 114, 101, 97, 109], r) := by rw [← hns]; exact inn_str r
        have la : na.length = r.length + 2 := by rw [← hna]; simp
        have ls : ns.length = r.length + 7 := by rw [← hns]; simp
        have qa : ¬ (pts na = 0 ∨ 20 < pts na) := by omega
        have qs : ¬ (pts ns = 0 ∨ 20 < pts ns) := by omega
        have e1 : ∀ (x y : Int), x = y → (x != y) = false := fun x y h => by simp [h]
        simp only [hna, hns]
        refine ⟨by omega, by omega, by omega, by decide, fun h7 => ⟨by omega, ?_⟩, fun h7 => ?_⟩
        · refine vr_f (t7 ns (by omega)) ?_
          rw [if_neg qs]
          simp (config := {contextual := true}) only [go_sem]
          refine vr_f (t6 ns (by omega)) ?_
          rw [if_neg qs, is]
          simp (config := {contextual := true}) only [go_sem, ps, h3, beq_self_eq_true, Bool.not_true, e1 _ _ (show ((i + 2 : Nat) : Int) = ((i + 1 : Nat) : Int) + 1 by omega)]
          refine ⟨inr64 (by omega) (by omega), inr64 (by omega) (by omega), (i + 1, ns), ⟨by simp; omega, by simp; omega, by simp; omega, by simp; omega⟩, by omega, by simp [forget]⟩
        · refine vr_f (t7 na (by omega)) ?_
          rw [if_neg qa]
          simp (config := {contextual := true}) only [go_sem]
          refine vr_f (t6 na (by omega)) ?_
          rw [if_neg qa, ia]
          simp (config := {contextual := true}) only [go_sem, pa, h3, beq_self_eq_true, Bool.not_true, e1 _ _ (show ((i + 2 : Nat) : Int) = ((i + 1 : Nat) : Int) + 1 by omega)]
          refine ⟨inr64 (by omega) (by omega), inr64 (by omega) (by omega), (i + 1, na), ⟨by simp; omega, by simp; omega, by simp; omega, by simp; omega⟩, by omega, by simp [forget]⟩
      all_goals
        have hq : ¬ (pts r = 0 ∨ 20 < pts r) := by omega
        have hr : pts r ≠ 0 := by omega
        refine ⟨by omega, ?_⟩
        refine vr_f (t7 (r ++ [32]) (by simp; omega)) ?_
        rw [if_pos (.inl (out1 hr))]
        simp (config := {contextual := true}) only [go_sem]
        refine ⟨by omega, ?_⟩
        refine vr_f (t7 (91 :: r) (by simp; omega)) ?_
        rw [if_pos (.inl (show pts (91 :: r) = 0 from out2 hr))]
        simp (config := {contextual := true}) only [go_sem]
        refine ⟨by omega, ?_⟩
        refine vr_f (t7 (r ++ [93]) (by simp; omega)) ?_
        rw [if_pos (.inl (out3 hr))]
        simp (config := {contextual := true}) only [go_sem]
        refine ⟨by omega, ?_⟩
        refine vr_f (t7 (32 :: r) (by simp; omega)) ?_
        rw [if_pos (.inl (show pts (32 :: r) = 0 from out4 hr))]
        simp (config := {contextual := true}) only [go_sem]
        refine vr_f (t7 r (by omega)) ?_
        rw [if_neg hq]
        simp (config := {contextual := true}) only [go_sem]
        refine vr_loop (I := fun s : List UInt8 => 1 ≤ pts s ∧ pts s ≤ 21 ∧ s.length ≤ 200 + 2 * pts s) (inv := fun s => gp [(3, S s), (18, .int .i64 (if 20 < pts s then 0 else (pts s : Int))), (0, .int .i64 (if 20 < pts s then 4 else 0))] 128) (hp := fun _ => []) (μ := fun s => 21 - pts s) r (by omega) ?_ rfl ?_
        · have hn : ¬ 20 < pts r := by omega
          simp [forget, gp, hn]
        · rintro s ⟨g1, g2, g3⟩
          by_cases g4 : 20 < pts s
          · simp (config := {contextual := true}) only [go_sem, if_pos g4]
            refine vr_f fknown ?_
            simp (config := {contextual := true}) only [go_sem]
          · have d40 : ((pts s : Int) < 40) = True := eq_true (by omega)
            have d20 : (20 < (pts s : Int)) = False := eq_false (by omega)
            obtain ⟨na, hna⟩ : ∃ na, (91 :: (s ++ [93]) : List UInt8) = na := ⟨_, rfl⟩
            have pa : pts na = pts s + 1 := by rw [← hna]; exact pts_arr (by omega)
            have la : na.length = s.length + 2 := by rw [← hna]; simp
            simp (config := {contextual := true}) only [go_sem, if_neg g4, d40, d20, decide_true, decide_false, hna]
            refine ⟨by omega, by omega, ?_⟩
            refine vr_f (t7 na (by omega)) ?_
            by_cases g5 : 20 < pts na
            · rw [if_pos (.inr g5)]
              simp (config := {contextual := true}) only [go_sem]
              exact ⟨na, ⟨by omega, by omega, by omega⟩, by omega, by simp [forget, g5]⟩
            · rw [if_neg (by omega)]
              simp (config := {contextual := true}) only [go_sem]
              exact ⟨na, ⟨by omega, by omega, by omega⟩, by omega, by simp [forget, g5]⟩
end Go.Cm
end
