/-
  The letters of kinds: parse.sort. Conditions: none.
-/
import Derived.Test.YtghkeneolbkliaaGreatDoorKIrA
import Derived.Test.YtghkeneolbkliaaGreatDoorKIrB
import Derived.Test.YtghkeneolbkliaaGreatDoorKIrC
import Derived.Test.YtghkeneolbkliaaGreatDoorKTyA
set_option linter.unusedSimpArgs false
set_option linter.unusedVariables false

section
open Go.Proofs Go.RowKit
namespace Go.Cm

theorem tNames : noNG Tryz.prog = true := by kernel_rfl
theorem tMixed : Tryz.prog.follows .mixedOrders = true := by kernel_rfl

/-- The letter of a kind. -/
def letter (k : Nat) : Nat :=
  if 1 ≤ k ∧ k ≤ 29 then 101 else if 60 ≤ k ∧ k ≤ 63 then 116 else if k = 46 ∨ k = 47 then 99
  else if k = 40 then 66 else if k = 41 then 83 else if k = 42 then 98 else if k = 43 then 73 else if k = 44 then 78 else if k = 45 then 71 else if k = 48 then 79
  else if k = 64 then 80 else if k = 65 then 68 else 32

theorem letter_lt (k : Nat) : letter k < 256 := by
  unfold letter
  repeat' split
  all_goals omega

noncomputable def tbS : BT YE := .node 122 (.code c122.body c122.ntmps c122.results) .nil .nil
theorem tbS_ok : tbS.All (YEOk Tryz.prog) := ⟨code0_ok (fnok_of tNames c122_ok) c122_ok, trivial, trivial⟩

theorem sort_all : allB (fun k => isAns (yfn tbS 1000 122 [.int .u8 (Int.ofNat k)]) (.int .u8 (Int.ofNat (letter k)))) 256 = true := by kernel_rfl

theorem fnSort (k : Nat) (hk : k < 256) : Fn Tryz.prog 122 [.int .u8 k] (.int .u8 (letter k)) :=
  yfn_sound tbS_ok tMixed (isAns_ok (allB_get sort_all k hk)) rfl rfl

/-- A contract of ours, made one of the kit's. -/
theorem calls_of_fn {P : Program} {f : Nat} {args : List CV} {v : CV} (h : Fn P f args v) (hv : v.closed = true) {w : World} {imm : Nat → Nat → Option Value} (himm : ∀ B i x, imm B i = some x → w.cell? ⟨B, i, none⟩ = some x) (hone : ∀ B i x, imm B i = some x → x.oneCell' = true) {vs : Array Value} (hvs : rels [] imm args vs.toList) :
    Calls P f vs w fun e w' => (∃ r imm', immLe imm imm' ∧ rel [] imm' v r ∧ e = .returned r) ∧ Below w.heap.size w w' := by
  have hs : Sim Env.none { own := [], imm := imm, ext := fun _ => False } [] w := ⟨rfl, by simp, himm, hone, by simp, by simp, by simp, by simp, by simp⟩
  refine ((h Env.none [] _ w vs hs hvs).calls fun k => room_WF none k).mono ?_
  rintro e w' ⟨r, m', v', H', rfl, hext, hs', hrel, rfl, rfl⟩
  have hno : ∀ B, ¬ owned { own := [], imm := imm, ext := fun _ => False } [] B := by
    rintro B (h | ⟨k, o, x, hk, _⟩)
    · exact h
    · simp at hk
  exact ⟨⟨r, m'.imm, hext.imm, closed_rel _ _ hv hrel, rfl⟩, hext.same.1, hext.same.2.2, hext.same.2.1, hext.size, fun k hk => hext.frame k hk (hno k)⟩

end Go.Cm
end
