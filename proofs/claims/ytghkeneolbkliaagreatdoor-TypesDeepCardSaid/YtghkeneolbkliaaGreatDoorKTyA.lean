/-
  Library functions of this seat: strings.Repeat, strings.Count. Conditions: none.
-/
import Derived.Test.YtghkeneolbkliaaGreatDoorKShelf
import Derived.Test.YtghkeneolbkliaaGreatDoorKFwKC
set_option linter.unusedSimpArgs false
set_option linter.unusedVariables false

section
open Go.Proofs Go.RowKit
namespace Go.Cm

theorem fnRepeat (s : ByteArray) (c : Nat) (hc : c ≤ 9223372036854775807) (hlen : s.size * c ≤ 140737488355328) : Fn Tryz.prog 141 [.str s, .int .i64 c] (.str ⟨(Lib.repeatL s.data.toList c).toArray⟩) := by
  intro E H
  refine callsC_of_calls fun m w vs hs hv => ?_
  simp only [rels, rel] at hv
  obtain ⟨r, rs, e, rfl, r2, rs2, rfl, rfl, rfl⟩ := hv
  have hvs : vs = #[.string s, .int .i64 c] := by cases vs; simp_all
  subst hvs
  exact ⟨_, Tryz.strings_Repeat s c w hc hlen, rfl⟩

theorem fnCount (s : ByteArray) (c : UInt8) : Fn Tryz.prog 142 [.str s, .str ⟨#[c]⟩] (.int .i64 (Lib.countByte s.data.toList c)) := by
  intro E H
  refine callsC_of_calls fun m w vs hs hv => ?_
  simp only [rels, rel] at hv
  obtain ⟨r, rs, e, rfl, r2, rs2, rfl, rfl, rfl⟩ := hv
  have hvs : vs = #[.string s, .string ⟨#[c]⟩] := by cases vs; simp_all
  subst hvs
  exact ⟨_, (Tryz.strings_Count_one s c w).mono fun e w' ⟨h1, h2⟩ => ⟨h1, by rw [h2]; exact Below.refl _ _⟩, rfl⟩

/-- The two, as the run calls them. -/
noncomputable def natRepeat (args : List CV) : Option CV := match args with
  | [.str s, .int .i64 n] => match n with
    | .ofNat c => cond (and (Nat.ble c 1000000) (Nat.ble s.data.toList.length 1000000)) (some (.str ⟨⟨Lib.repeatL s.data.toList c⟩⟩)) none
    | _ => none
  | _ => none
noncomputable def natCount (args : List CV) : Option CV := match args with
  | [.str s, .str c] => match c.data.toList with
    | [c] => some (.int .i64 (Lib.countByte s.data.toList c))
    | _ => none
  | _ => none

theorem natRepeat_ok (hf : FnOk Tryz.prog 141) : YEOk Tryz.prog 141 (.nat natRepeat) := by
  refine ⟨hf, fun args v h => ?_⟩
  unfold natRepeat at h
  split at h
  · split at h
    · rename_i s n c
      obtain ⟨h1, h2⟩ := cnd h
      rw [Bool.and_eq_true, ble_iff, ble_iff] at h1
      simp only [Option.some.injEq] at h2
      subst h2
      have hsz : s.size = s.data.toList.length := by simp
      exact fnRepeat s c (by omega) (by rw [hsz]; exact Nat.le_trans (Nat.mul_le_mul h1.2 h1.1) (by decide))
    · cases h
  · cases h

theorem natCount_ok (hf : FnOk Tryz.prog 142) : YEOk Tryz.prog 142 (.nat natCount) := by
  refine ⟨hf, fun args v h => ?_⟩
  unfold natCount at h
  split at h
  · split at h
    · rename_i s x _ c hc
      simp only [Option.some.injEq] at h
      subst h
      have hx : x = ⟨#[c]⟩ := str_ext (by rw [hc])
      rw [hx]
      exact fnCount s c
    · cases h
  · cases h

end Go.Cm
end
