/-
  THE STATEMENT TypesSplit: for every input the law returns true, and its argument reads as before; the card ties the listed variables to the program's text. Conditions: none.
-/
import Derived.Test.YtghkeneolbkliaaGreatDoorRows
import Derived.Test.YtghkeneolbkliaaGreatDoorCards
import Derived.Test.YtghkeneolbkliaaGreatDoorTie
import Derived.Test.YtghkeneolbkliaaGreatDoorKTyY
import Derived.WalkKit
import Derived.ProofKit
import Derived.LaidMore
import Derived.Stop.Joined
import Derived.SevenTiedAt
set_option linter.unusedSimpArgs false
set_option linter.unusedVariables false

section
open Go.Proofs
namespace Go.Proofs.YtghkeneolbkliaaGreatDoor
open Go.Cm Go.ChangeShapes Go.WideShapes Go.RowKit

theorem own3 : ownKnob Tryz.prog.godebug = none := by kernel_rfl
theorem ty_laid : laidOutB Tryz.prog = true := by kernel_rfl
theorem ty_maps : mapsRowed Tryz.prog = true := by kernel_rfl
theorem ty_full : ((List.range Tryz.prog.types.size).all fun t => match Tryz.prog.underlying t with | some (.slice e) => decide (0 < Tryz.prog.cellsOf e) | _ => true) = true := by kernel_rfl

/-- The door's own heap meets the condition: three closed facts. -/
theorem door_met3 (os : Os) (args : Array Value) : laidMetH Tryz.prog Rows.typesSplitRow.laid ((World.doorLaid Tryz.prog 400 os).forCall (fun _ _ => 0) ⟨#[], args, []⟩).memory :=
  laidMetH_of_parts3 (fuel := 8) (laidMet_of_run' 8 (by kernel_rfl) (by kernel_rfl)) (by kernel_rfl) (by kernel_rfl)

set_option maxRecDepth 100000 in
theorem lifted3 (os : Os) (started : os.Started) (H : Type) (enc : TypeId × Value → H) :
    ReturnsInHanded {} Tryz.checked os 3 .any (fun w args => (Rows.typesSplitSpec.pre enc Tryz.prog Tryz.f3 [] false w args ∧ laidMetH Tryz.prog Rows.typesSplitRow.laid w) ∧ sizedMet enc Tryz.prog Tryz.f3 (OpenSpec.ofChange Rows.typesSplitSpec) false w args)
      (Rows.typesSplitSpec.post enc Tryz.prog Tryz.f3 false true false false) := by
  refine returnsInHanded_of_change_and (C := Tryz.checked) (X := fun w _ => laidMetH Tryz.prog Rows.typesSplitRow.laid w) (fun _ _ _ hh h => h.of_heap hh) own3 started (by kernel_rfl) Tryz.func3
    (ChangeSpec.witness_shaped (enc := enc) (C := Tryz.checked) (os := os) (X := fun w _ => laidMetH Tryz.prog Rows.typesSplitRow.laid w) false (World.doorLaid Tryz.prog 400 os) #[.string ⟨#[]⟩] 8 rfl (World.shaped_of_RefB (by kernel_rfl) (by kernel_rfl)) (by kernel_rfl) (by kernel_rfl) (by kernel_rfl) (door_met3 os _)) ?_
  intro W base args ds gs before hval hW _ _ _ _
  refine law_contract (bt := 4) (d := 4) ty_laid ty_maps ty_full Tryz.underlying4 (by kernel_rfl) rfl (fun ds hds => ?_) (by kernel_rfl) (fun l hl => ?_) W base args ds gs before hval hW
  · rw [Tryz.params3] at hds
    match ds, hds with
    | [a], _ => exact ⟨rfl, rfl, rfl⟩
  · rw [Tryz.params3] at hl
    obtain ⟨c0, l0, rfl, h0, rfl⟩ := hl
    simp only [fitsTop, Tryz.underlying9] at h0
    obtain ⟨s, h1, _⟩ := fits_str Tryz.underlying9 h0
    cases h1
    exact t3 s.data.toList

theorem typesSplit_holds : Rows.TypesSplitSaid :=
  OpenClaim.holds_of_wide 3 Tryz.f3 rfl rfl rfl rfl rfl rfl rfl ⟨rfl, rfl, rfl, rfl, rfl⟩ rfl rfl rfl rfl rfl (by kernel_rfl) Tryz.func3 (by kernel_rfl)
    (of_decide_eq_true (by kernel_rfl)) (by unfold Func.isWrapper; first | (rw [if_pos (by decide +kernel)]; kernel_rfl) | (rw [if_neg (by decide +kernel)]; exact ⟨rfl, rfl⟩))
    (fun os started H enc _ => lifted3 os started H enc)

theorem typesSplit_card_holds : Rows.TypesSplitCardSaid :=
  Claim7.holds_tied_plain_at .later [] [.data, .data, .data, .sentinel, .sentinel] true (true, "73b566a252b18e0f6f882bfbabe73bc24c34be9a6b05bf459d81055784b714b2") true
    typesSplit_holds (fun _ h => by cases h) (by kernel_rfl) (fun _ h => by cases h) typesSplit_row_tie rfl ⟨rfl, rfl⟩ (by kernel_rfl) rfl
    (fun f fn hf hfn => by
      obtain rfl : f = 3 := Option.some.inj ((show Tryz.prog.funcNamed "floodgate/floodgatelaw04.TypesSplit" = some 3 by kernel_rfl).symm.trans hf) |>.symm
      obtain rfl : fn = Tryz.f3 := (Option.some.inj (Tryz.func3.symm.trans hfn)).symm
      exact ⟨by kernel_rfl, fun j t ht => by
        rw [Tryz.params3] at ht
        have hm : t ∈ [9] := by simpa using Array.mem_of_getElem? ht
        have hall : ([9].all fun u => !Tryz.prog.wantsStandIn u) = true := by kernel_rfl
        exact (show Tryz.prog.wantsStandIn t = false by simpa using List.all_eq_true.1 hall t hm)⟩)
    (by kernel_rfl)
#print axioms typesSplit_card_holds
end Go.Proofs.YtghkeneolbkliaaGreatDoor
end
