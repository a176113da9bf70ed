/-
  No cell of these rows narrows 'for every input' (looked for: loops, veiled, ifaces, maps, wideKeys, modest, calm, conditions, laid).
  DERIVED. THE GIVEN ROWS OF THIS SEAT. 9 by the template 'for every input the law returns true; each argument reads behind the call as it read before'; 0 by the template 'total and deterministic' (their statements: YtodbhbjjeamoaaaTotals.lean).
  GIVEN WITH THE SEED: the statements are not yours to turn. If you find one false, say at which input.
  Laid BY PROGRAM, IN A SANDBOX (cutbox-rows.mjs): the forced cells as the released guide's own fill.sh prints them over the translation 5b8962c856e5c28f… (all of the seat's roots in one cut). By AI agents, Wed Nov 11 2026. No macro, syntax, notation, axiom, sorry.
-/
import Derived.Test.YtodbhbjjeamoaaaChecked
import GoSem.Claim
import GoSem.ClaimJoined
import GoSem.ClaimMapViews
import Derived.JoinedTies
import Derived.KernelRfl
namespace Go.Proofs.Ytodbhbjjeamoaaa
/- THE CELL 'sum', in the pinned program and in every row, IS THE sha256 OF THE DUMP (.gsa) THAT YtodbhbjjeamoaaaProg.lean LOADS. Nothing in Lean hashes anything: it is a label: what it is worth is what the hold of that sum in a sandbox is worth. -/
noncomputable def Try.pinned : Pinned := { name := "ytodbhbjjeamoaaa", sum := "5b8962c856e5c28fe00590e90a3976b42f62367e106a2fed6d0ddff7bd6417d0", checked := Try.checked }
namespace Rows
def none {H : Type} : Left H := { results := [], args := [] }

/-- 'floodgatelaw05.RegionMisses': WHATEVER THE INPUT: true; the input reads as it did. -/
def regionMissesSpec : ChangeSpec := { name := "regionMisses", fn := fun _ => fun
  | [d1, d2] => { results := [.lit (.bool true)], args := [d1, d2] }
  | _ => none }
def regionMissesRow : OpenClaim := { program := "ytodbhbjjeamoaaa", sum := "5b8962c856e5c28fe00590e90a3976b42f62367e106a2fed6d0ddff7bd6417d0", func := "floodgate/floodgatelaw05.RegionMisses", spec := "regionMisses", unfollowed := true, recurses := true, apart := false }
def RegionMissesSaid : Prop := regionMissesRow.holds Try.pinned (OpenSpec.ofChange regionMissesSpec)

/-- ITS FALSE NEIGHBOUR: 'it returns false'. Refute it at one input. -/
def regionMissesWrong : ChangeSpec := { name := "regionMisses", fn := fun _ => fun
  | [d1, d2] => { results := [.lit (.bool false)], args := [d1, d2] }
  | _ => none }
def RegionMissesWrongFalsely : Prop := regionMissesRow.holds Try.pinned (OpenSpec.ofChange regionMissesWrong)

/-- 'floodgatelaw05.RegionLeast': WHATEVER THE INPUT: true; the input reads as it did. -/
def regionLeastSpec : ChangeSpec := { name := "regionLeast", fn := fun _ => fun
  | [d] => { results := [.lit (.bool true)], args := [d] }
  | _ => none }
def regionLeastRow : OpenClaim := { program := "ytodbhbjjeamoaaa", sum := "5b8962c856e5c28fe00590e90a3976b42f62367e106a2fed6d0ddff7bd6417d0", func := "floodgate/floodgatelaw05.RegionLeast", spec := "regionLeast", unfollowed := true, recurses := true, apart := false }
def RegionLeastSaid : Prop := regionLeastRow.holds Try.pinned (OpenSpec.ofChange regionLeastSpec)

/-- ITS FALSE NEIGHBOUR: 'it returns false'. Refute it at one input. -/
def regionLeastWrong : ChangeSpec := { name := "regionLeast", fn := fun _ => fun
  | [d] => { results := [.lit (.bool false)], args := [d] }
  | _ => none }
def RegionLeastWrongFalsely : Prop := regionLeastRow.holds Try.pinned (OpenSpec.ofChange regionLeastWrong)

/-- 'floodgatelaw05.RegionFills': WHATEVER THE INPUT: true; the input reads as it did. -/
def regionFillsSpec : ChangeSpec := { name := "regionFills", fn := fun _ => fun
  | [d1, d2, d3] => { results := [.lit (.bool true)], args := [d1, d2, d3] }
  | _ => none }
def regionFillsRow : OpenClaim := { program := "ytodbhbjjeamoaaa", sum := "5b8962c856e5c28fe00590e90a3976b42f62367e106a2fed6d0ddff7bd6417d0", func := "floodgate/floodgatelaw05.RegionFills", spec := "regionFills", unfollowed := true, recurses := true, apart := false }
def RegionFillsSaid : Prop := regionFillsRow.holds Try.pinned (OpenSpec.ofChange regionFillsSpec)

/-- ITS FALSE NEIGHBOUR: 'it returns false'. Refute it at one input. -/
def regionFillsWrong : ChangeSpec := { name := "regionFills", fn := fun _ => fun
  | [d1, d2, d3] => { results := [.lit (.bool false)], args := [d1, d2, d3] }
  | _ => none }
def RegionFillsWrongFalsely : Prop := regionFillsRow.holds Try.pinned (OpenSpec.ofChange regionFillsWrong)

/-- 'floodgatelaw05.RegionCells': WHATEVER THE INPUT: true; the input reads as it did. -/
def regionCellsSpec : ChangeSpec := { name := "regionCells", fn := fun _ => fun
  | [d1, d2] => { results := [.lit (.bool true)], args := [d1, d2] }
  | _ => none }
def regionCellsRow : OpenClaim := { program := "ytodbhbjjeamoaaa", sum := "5b8962c856e5c28fe00590e90a3976b42f62367e106a2fed6d0ddff7bd6417d0", func := "floodgate/floodgatelaw05.RegionCells", spec := "regionCells", unfollowed := true, recurses := true, apart := false }
def RegionCellsSaid : Prop := regionCellsRow.holds Try.pinned (OpenSpec.ofChange regionCellsSpec)

/-- ITS FALSE NEIGHBOUR: 'it returns false'. Refute it at one input. -/
def regionCellsWrong : ChangeSpec := { name := "regionCells", fn := fun _ => fun
  | [d1, d2] => { results := [.lit (.bool false)], args := [d1, d2] }
  | _ => none }
def RegionCellsWrongFalsely : Prop := regionCellsRow.holds Try.pinned (OpenSpec.ofChange regionCellsWrong)

/-- 'floodgatelaw05.RegionSplit': WHATEVER THE INPUT: true; the input reads as it did. -/
def regionSplitSpec : ChangeSpec := { name := "regionSplit", fn := fun _ => fun
  | [d1, d2, d3] => { results := [.lit (.bool true)], args := [d1, d2, d3] }
  | _ => none }
def regionSplitRow : OpenClaim := { program := "ytodbhbjjeamoaaa", sum := "5b8962c856e5c28fe00590e90a3976b42f62367e106a2fed6d0ddff7bd6417d0", func := "floodgate/floodgatelaw05.RegionSplit", spec := "regionSplit", unfollowed := true, recurses := true, apart := false }
def RegionSplitSaid : Prop := regionSplitRow.holds Try.pinned (OpenSpec.ofChange regionSplitSpec)

/-- ITS FALSE NEIGHBOUR: 'it returns false'. Refute it at one input. -/
def regionSplitWrong : ChangeSpec := { name := "regionSplit", fn := fun _ => fun
  | [d1, d2, d3] => { results := [.lit (.bool false)], args := [d1, d2, d3] }
  | _ => none }
def RegionSplitWrongFalsely : Prop := regionSplitRow.holds Try.pinned (OpenSpec.ofChange regionSplitWrong)

/-- 'floodgatelaw05.RegionEnds': WHATEVER THE INPUT: true; the input reads as it did. -/
def regionEndsSpec : ChangeSpec := { name := "regionEnds", fn := fun _ => fun
  | [d1, d2, d3] => { results := [.lit (.bool true)], args := [d1, d2, d3] }
  | _ => none }
def regionEndsRow : OpenClaim := { program := "ytodbhbjjeamoaaa", sum := "5b8962c856e5c28fe00590e90a3976b42f62367e106a2fed6d0ddff7bd6417d0", func := "floodgate/floodgatelaw05.RegionEnds", spec := "regionEnds", unfollowed := true, recurses := true, apart := false }
def RegionEndsSaid : Prop := regionEndsRow.holds Try.pinned (OpenSpec.ofChange regionEndsSpec)

/-- ITS FALSE NEIGHBOUR: 'it returns false'. Refute it at one input. -/
def regionEndsWrong : ChangeSpec := { name := "regionEnds", fn := fun _ => fun
  | [d1, d2, d3] => { results := [.lit (.bool false)], args := [d1, d2, d3] }
  | _ => none }
def RegionEndsWrongFalsely : Prop := regionEndsRow.holds Try.pinned (OpenSpec.ofChange regionEndsWrong)

/-- 'floodgatelaw05.RegionOnce': WHATEVER THE INPUT: true; the input reads as it did. -/
def regionOnceSpec : ChangeSpec := { name := "regionOnce", fn := fun _ => fun
  | [d1, d2] => { results := [.lit (.bool true)], args := [d1, d2] }
  | _ => none }
def regionOnceRow : OpenClaim := { program := "ytodbhbjjeamoaaa", sum := "5b8962c856e5c28fe00590e90a3976b42f62367e106a2fed6d0ddff7bd6417d0", func := "floodgate/floodgatelaw05.RegionOnce", spec := "regionOnce", unfollowed := true, recurses := true, apart := false }
def RegionOnceSaid : Prop := regionOnceRow.holds Try.pinned (OpenSpec.ofChange regionOnceSpec)

/-- ITS FALSE NEIGHBOUR: 'it returns false'. Refute it at one input. -/
def regionOnceWrong : ChangeSpec := { name := "regionOnce", fn := fun _ => fun
  | [d1, d2] => { results := [.lit (.bool false)], args := [d1, d2] }
  | _ => none }
def RegionOnceWrongFalsely : Prop := regionOnceRow.holds Try.pinned (OpenSpec.ofChange regionOnceWrong)

/-- 'floodgatelaw05.RegionSizes': WHATEVER THE INPUT: true; the input reads as it did. -/
def regionSizesSpec : ChangeSpec := { name := "regionSizes", fn := fun _ => fun
  | [d] => { results := [.lit (.bool true)], args := [d] }
  | _ => none }
def regionSizesRow : OpenClaim := { program := "ytodbhbjjeamoaaa", sum := "5b8962c856e5c28fe00590e90a3976b42f62367e106a2fed6d0ddff7bd6417d0", func := "floodgate/floodgatelaw05.RegionSizes", spec := "regionSizes", unfollowed := true, recurses := true, apart := false }
def RegionSizesSaid : Prop := regionSizesRow.holds Try.pinned (OpenSpec.ofChange regionSizesSpec)

/-- ITS FALSE NEIGHBOUR: 'it returns false'. Refute it at one input. -/
def regionSizesWrong : ChangeSpec := { name := "regionSizes", fn := fun _ => fun
  | [d] => { results := [.lit (.bool false)], args := [d] }
  | _ => none }
def RegionSizesWrongFalsely : Prop := regionSizesRow.holds Try.pinned (OpenSpec.ofChange regionSizesWrong)

/-- 'floodgatelaw05.RegionOrder': WHATEVER THE INPUT: true; the input reads as it did. -/
def regionOrderSpec : ChangeSpec := { name := "regionOrder", fn := fun _ => fun
  | [d1, d2, d3] => { results := [.lit (.bool true)], args := [d1, d2, d3] }
  | _ => none }
def regionOrderRow : OpenClaim := { program := "ytodbhbjjeamoaaa", sum := "5b8962c856e5c28fe00590e90a3976b42f62367e106a2fed6d0ddff7bd6417d0", func := "floodgate/floodgatelaw05.RegionOrder", spec := "regionOrder", unfollowed := true, recurses := true, apart := false }
def RegionOrderSaid : Prop := regionOrderRow.holds Try.pinned (OpenSpec.ofChange regionOrderSpec)

/-- ITS FALSE NEIGHBOUR: 'it returns false'. Refute it at one input. -/
def regionOrderWrong : ChangeSpec := { name := "regionOrder", fn := fun _ => fun
  | [d1, d2, d3] => { results := [.lit (.bool false)], args := [d1, d2, d3] }
  | _ => none }
def RegionOrderWrongFalsely : Prop := regionOrderRow.holds Try.pinned (OpenSpec.ofChange regionOrderWrong)

/- THE SECOND FORM. 'bulk': how many values and letters a reading holds, each counted each time it is reached (what is shared counts as often as it is met; a slice's spare places count too). A statement '..UptoSaid' is the law's where the arguments, and the package variables that the reading takes, are together of bulk at most 1048576: NARROWER than '..Said'. Prove '..Said' where nothing that the law and all that it calls make is longer than what came in: it says more and counts as full. Else prove '..UptoSaid'. A law counts once. -/
mutual
def uptoBulk {H : Type} : DataW H → Nat
  | .lit (.string bytes) => bytes.length + 1
  | .lit _ => 1
  | .nil => 1
  | .ptr d => uptoBulk d + 1
  | .slice elems spare => uptoBulkAll elems + uptoBulkAll spare + 1
  | .agg parts => uptoBulkAll parts + 1
  | .iface _ d => uptoBulk d + 1
  | .map entries => uptoBulkEntries entries + 1
  | .held _ => 1
def uptoBulkAll {H : Type} : List (DataW H) → Nat
  | [] => 0
  | d :: r => uptoBulk d + uptoBulkAll r
def uptoBulkEntries {H : Type} : List (Lit × DataW H) → Nat
  | [] => 0
  | x :: r => uptoBulkEntry x + uptoBulkEntries r
def uptoBulkEntry {H : Type} : Lit × DataW H → Nat
  | (.string bytes, d) => bytes.length + uptoBulk d + 1
  | (_, d) => uptoBulk d + 1
 end
def uptoSmall : (H : Type) → List (DataW H) → Bool := fun _ ds => decide (uptoBulkAll ds ≤ 1048576)
def OpenSpec.upto (s : _root_.Go.ChangeSpec) : _root_.Go.OpenSpec := { _root_.Go.OpenSpec.ofChange s with cond := some uptoSmall }

/-- 'floodgatelaw05.RegionMisses', WHERE WHAT IT READS IS OF BULK AT MOST 1048576: true; the input reads as it did. -/
def regionMissesUptoRow : OpenClaim := { program := "ytodbhbjjeamoaaa", sum := "5b8962c856e5c28fe00590e90a3976b42f62367e106a2fed6d0ddff7bd6417d0", func := "floodgate/floodgatelaw05.RegionMisses", spec := "regionMisses", unfollowed := true, recurses := true, apart := false, narrowed := true }
def RegionMissesUptoSaid : Prop := regionMissesUptoRow.holds Try.pinned (OpenSpec.upto regionMissesSpec)

/-- 'floodgatelaw05.RegionLeast', WHERE WHAT IT READS IS OF BULK AT MOST 1048576: true; the input reads as it did. -/
def regionLeastUptoRow : OpenClaim := { program := "ytodbhbjjeamoaaa", sum := "5b8962c856e5c28fe00590e90a3976b42f62367e106a2fed6d0ddff7bd6417d0", func := "floodgate/floodgatelaw05.RegionLeast", spec := "regionLeast", unfollowed := true, recurses := true, apart := false, narrowed := true }
def RegionLeastUptoSaid : Prop := regionLeastUptoRow.holds Try.pinned (OpenSpec.upto regionLeastSpec)

/-- 'floodgatelaw05.RegionFills', WHERE WHAT IT READS IS OF BULK AT MOST 1048576: true; the input reads as it did. -/
def regionFillsUptoRow : OpenClaim := { program := "ytodbhbjjeamoaaa", sum := "5b8962c856e5c28fe00590e90a3976b42f62367e106a2fed6d0ddff7bd6417d0", func := "floodgate/floodgatelaw05.RegionFills", spec := "regionFills", unfollowed := true, recurses := true, apart := false, narrowed := true }
def RegionFillsUptoSaid : Prop := regionFillsUptoRow.holds Try.pinned (OpenSpec.upto regionFillsSpec)

/-- 'floodgatelaw05.RegionCells', WHERE WHAT IT READS IS OF BULK AT MOST 1048576: true; the input reads as it did. -/
def regionCellsUptoRow : OpenClaim := { program := "ytodbhbjjeamoaaa", sum := "5b8962c856e5c28fe00590e90a3976b42f62367e106a2fed6d0ddff7bd6417d0", func := "floodgate/floodgatelaw05.RegionCells", spec := "regionCells", unfollowed := true, recurses := true, apart := false, narrowed := true }
def RegionCellsUptoSaid : Prop := regionCellsUptoRow.holds Try.pinned (OpenSpec.upto regionCellsSpec)

/-- 'floodgatelaw05.RegionSplit', WHERE WHAT IT READS IS OF BULK AT MOST 1048576: true; the input reads as it did. -/
def regionSplitUptoRow : OpenClaim := { program := "ytodbhbjjeamoaaa", sum := "5b8962c856e5c28fe00590e90a3976b42f62367e106a2fed6d0ddff7bd6417d0", func := "floodgate/floodgatelaw05.RegionSplit", spec := "regionSplit", unfollowed := true, recurses := true, apart := false, narrowed := true }
def RegionSplitUptoSaid : Prop := regionSplitUptoRow.holds Try.pinned (OpenSpec.upto regionSplitSpec)

/-- 'floodgatelaw05.RegionEnds', WHERE WHAT IT READS IS OF BULK AT MOST 1048576: true; the input reads as it did. -/
def regionEndsUptoRow : OpenClaim := { program := "ytodbhbjjeamoaaa", sum := "5b8962c856e5c28fe00590e90a3976b42f62367e106a2fed6d0ddff7bd6417d0", func := "floodgate/floodgatelaw05.RegionEnds", spec := "regionEnds", unfollowed := true, recurses := true, apart := false, narrowed := true }
def RegionEndsUptoSaid : Prop := regionEndsUptoRow.holds Try.pinned (OpenSpec.upto regionEndsSpec)

/-- 'floodgatelaw05.RegionOnce', WHERE WHAT IT READS IS OF BULK AT MOST 1048576: true; the input reads as it did. -/
def regionOnceUptoRow : OpenClaim := { program := "ytodbhbjjeamoaaa", sum := "5b8962c856e5c28fe00590e90a3976b42f62367e106a2fed6d0ddff7bd6417d0", func := "floodgate/floodgatelaw05.RegionOnce", spec := "regionOnce", unfollowed := true, recurses := true, apart := false, narrowed := true }
def RegionOnceUptoSaid : Prop := regionOnceUptoRow.holds Try.pinned (OpenSpec.upto regionOnceSpec)

/-- 'floodgatelaw05.RegionSizes', WHERE WHAT IT READS IS OF BULK AT MOST 1048576: true; the input reads as it did. -/
def regionSizesUptoRow : OpenClaim := { program := "ytodbhbjjeamoaaa", sum := "5b8962c856e5c28fe00590e90a3976b42f62367e106a2fed6d0ddff7bd6417d0", func := "floodgate/floodgatelaw05.RegionSizes", spec := "regionSizes", unfollowed := true, recurses := true, apart := false, narrowed := true }
def RegionSizesUptoSaid : Prop := regionSizesUptoRow.holds Try.pinned (OpenSpec.upto regionSizesSpec)

/-- 'floodgatelaw05.RegionOrder', WHERE WHAT IT READS IS OF BULK AT MOST 1048576: true; the input reads as it did. -/
def regionOrderUptoRow : OpenClaim := { program := "ytodbhbjjeamoaaa", sum := "5b8962c856e5c28fe00590e90a3976b42f62367e106a2fed6d0ddff7bd6417d0", func := "floodgate/floodgatelaw05.RegionOrder", spec := "regionOrder", unfollowed := true, recurses := true, apart := false, narrowed := true }
def RegionOrderUptoSaid : Prop := regionOrderUptoRow.holds Try.pinned (OpenSpec.upto regionOrderSpec)

end Rows
end Go.Proofs.Ytodbhbjjeamoaaa
