/-
  THE STATEMENT TypesDeep: for every input the law returns true, and its argument reads as before; the card ties the listed variables to the program's text. Conditions: none.
-/
import Derived.Test.YtghkeneolbkliaaGreatDoorRows
import Derived.Test.YtghkeneolbkliaaGreatDoorCards
import Derived.Test.YtghkeneolbkliaaGreatDoorTie
import Derived.Test.YtghkeneolbkliaaGreatDoorKTyZ
import Derived.WalkKit
import Derived.ProofKit
import Derived.LaidMore
import Derived.Stop.Joined
import Derived.SevenTiedAt
set_option linter.unusedSimpArgs false
set_option linter.unusedVariables false

section
open Go.Proofs
namespace Go.Proofs.YtghkeneolbkliaaGreatDoor
open Go.Cm Go.ChangeShapes Go.WideShapes Go.RowKit

theorem own4 : ownKnob Tryz.prog.godebug = none := by kernel_rfl
theorem ty_laid : laidOutB Tryz.prog = true := by kernel_rfl
theorem ty_maps : mapsRowed Tryz.prog = true := by kernel_rfl
theorem ty_full : ((List.range Tryz.prog.types.size).all fun t => match Tryz.prog.underlying t with | some (.slice e) => decide (0 < Tryz.prog.cellsOf e) | _ => true) = true := by kernel_rfl

/-- The door's own heap meets the condition: three closed facts. -/
theorem door_met4 (os : Os) (args : Array Value) : laidMetH Tryz.prog Rows.typesDeepRow.laid ((World.doorLaid Tryz.prog 400 os).forCall (fun _ _ => 0) ⟨#[], args, []⟩).memory :=
  laidMetH_of_parts3 (fuel := 8) (laidMet_of_run' 8 (by kernel_rfl) (by kernel_rfl)) (by kernel_rfl) (by kernel_rfl)

set_option maxRecDepth 100000 in
theorem lifted4 (os : Os) (started : os.Started) (H : Type) (enc : TypeId × Value → H) :
    ReturnsInHanded {} Tryz.checked os 4 .any (fun w args => (Rows.typesDeepSpec.pre enc Tryz.prog Tryz.f4 [] false w args ∧ laidMetH Tryz.prog Rows.typesDeepRow.laid w) ∧ sizedMet enc Tryz.prog Tryz.f4 (OpenSpec.ofChange Rows.typesDeepSpec) false w args)
      (Rows.typesDeepSpec.post enc Tryz.prog Tryz.f4 false true false false) := by
  refine returnsInHanded_of_change_and (C := Tryz.checked) (X := fun w _ => laidMetH Tryz.prog Rows.typesDeepRow.laid w) (fun _ _ _ hh h => h.of_heap hh) own4 started (by kernel_rfl) Tryz.func4
    (ChangeSpec.witness_shaped (enc := enc) (C := Tryz.checked) (os := os) (X := fun w _ => laidMetH Tryz.prog Rows.typesDeepRow.laid w) false (World.doorLaid Tryz.prog 400 os) #[.slice none 0 0] 8 rfl (World.shaped_of_RefB (by kernel_rfl) (by kernel_rfl)) (by kernel_rfl) (by kernel_rfl) (by kernel_rfl) (door_met4 os _)) ?_
  intro W base args ds gs before hval hW _ _ _ _
  refine law_contract (bt := 4) (d := 4) ty_laid ty_maps ty_full Tryz.underlying4 (by kernel_rfl) rfl (fun ds hds => ?_) (by kernel_rfl) (fun l hl => ?_) W base args ds gs before hval hW
  · rw [Tryz.params4] at hds
    match ds, hds with
    | [a], _ => exact ⟨rfl, rfl, rfl⟩
  · rw [Tryz.params4] at hl
    obtain ⟨c0, l0, rfl, h0, rfl⟩ := hl
    obtain ⟨els, rfl, _, h2⟩ := top_slice Tryz.underlying32 h0
    obtain ⟨bs, rfl⟩ := els_map (enc := fun b : Nat => [CV.int .u8 b]) (fun e he => by
      obtain ⟨x, rfl, hx⟩ := fits_int Tryz.underlying5 (h2 e he)
      exact ⟨x.toNat, by have : ((x.toNat : Nat) : Int) = x := Int.toNat_of_nonneg hx.1; rw [this]⟩)
    exact t4 bs none

theorem typesDeep_holds : Rows.TypesDeepSaid :=
  OpenClaim.holds_of_wide 4 Tryz.f4 rfl rfl rfl rfl rfl rfl rfl ⟨rfl, rfl, rfl, rfl, rfl⟩ rfl rfl rfl rfl rfl (by kernel_rfl) Tryz.func4 (by kernel_rfl)
    (of_decide_eq_true (by kernel_rfl)) (by unfold Func.isWrapper; first | (rw [if_pos (by decide +kernel)]; kernel_rfl) | (rw [if_neg (by decide +kernel)]; exact ⟨rfl, rfl⟩))
    (fun os started H enc _ => lifted4 os started H enc)

theorem typesDeep_card_holds : Rows.TypesDeepCardSaid :=
  Claim7.holds_tied_plain_at .later [] [.data, .data, .data, .sentinel, .sentinel] true (true, "73b566a252b18e0f6f882bfbabe73bc24c34be9a6b05bf459d81055784b714b2") true
    typesDeep_holds (fun _ h => by cases h) (by kernel_rfl) (fun _ h => by cases h) typesDeep_row_tie rfl ⟨rfl, rfl⟩ (by kernel_rfl) rfl
    (fun f fn hf hfn => by
      obtain rfl : f = 4 := Option.some.inj ((show Tryz.prog.funcNamed "floodgate/floodgatelaw04.TypesDeep" = some 4 by kernel_rfl).symm.trans hf) |>.symm
      obtain rfl : fn = Tryz.f4 := (Option.some.inj (Tryz.func4.symm.trans hfn)).symm
      exact ⟨by kernel_rfl, fun j t ht => by
        rw [Tryz.params4] at ht
        have hm : t ∈ [32] := by simpa using Array.mem_of_getElem? ht
        have hall : ([32].all fun u => !Tryz.prog.wantsStandIn u) = true := by kernel_rfl
        exact (show Tryz.prog.wantsStandIn t = false by simpa using List.all_eq_true.1 hall t hm)⟩)
    (by kernel_rfl)
#print axioms typesDeep_card_holds
end Go.Proofs.YtghkeneolbkliaaGreatDoor
end
