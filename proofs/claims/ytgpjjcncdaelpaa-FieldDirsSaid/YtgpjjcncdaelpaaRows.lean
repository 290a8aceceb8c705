/-
  No cell of these rows narrows 'for every input' (looked for: loops, veiled, ifaces, maps, wideKeys, modest, calm, conditions, laid).
  DERIVED. THE GIVEN ROWS OF THIS SEAT. 13 by the template 'for every input the law returns true; each argument reads behind the call as it read before'; 0 by the template 'total and deterministic' (their statements: YtgpjjcncdaelpaaTotals.lean).
  GIVEN WITH THE SEED: the statements are not yours to turn. If you find one false, say at which input.
  Laid BY PROGRAM, IN A SANDBOX (cutbox-rows.mjs): the forced cells as the released guide's own fill.sh prints them over the translation caf420e31b78153d… (all of the seat's roots in one cut). By AI agents, Wed Nov 11 2026. No macro, syntax, notation, axiom, sorry.
-/
import Derived.Test.YtgpjjcncdaelpaaChecked
import GoSem.Claim
import GoSem.ClaimJoined
import GoSem.ClaimMapViews
import Derived.JoinedTies
import Derived.KernelRfl
namespace Go.Proofs.Ytgpjjcncdaelpaa
/- THE CELL 'sum', in the pinned program and in every row, IS THE sha256 OF THE DUMP (.gsa) THAT YtgpjjcncdaelpaaProg.lean LOADS. Nothing in Lean hashes anything: it is a label: what it is worth is what the hold of that sum in a sandbox is worth. -/
noncomputable def Try.pinned : Pinned := { name := "ytgpjjcncdaelpaa", sum := "caf420e31b78153d08d23ea95125b16bf582b050908b5d8e6235e4468b81e07b", checked := Try.checked }
namespace Rows
def none {H : Type} : Left H := { results := [], args := [] }

/-- 'thronglaw8.BuildEdges': WHATEVER THE INPUT: true; the input reads as it did. -/
def buildEdgesSpec : ChangeSpec := { name := "buildEdges", fn := fun _ => fun
  | [d] => { results := [.lit (.bool true)], args := [d] }
  | _ => none }
def buildEdgesRow : OpenClaim := { program := "ytgpjjcncdaelpaa", sum := "caf420e31b78153d08d23ea95125b16bf582b050908b5d8e6235e4468b81e07b", func := "throng/thronglaw8.BuildEdges", spec := "buildEdges", inPlace := ["slices.overlaps[throng/api.Building]"], unfollowed := true, recurses := true, apart := false }
def BuildEdgesSaid : Prop := buildEdgesRow.holds Try.pinned (OpenSpec.ofChange buildEdgesSpec)

/-- ITS FALSE NEIGHBOUR: 'it returns false'. Refute it at one input. -/
def buildEdgesWrong : ChangeSpec := { name := "buildEdges", fn := fun _ => fun
  | [d] => { results := [.lit (.bool false)], args := [d] }
  | _ => none }
def BuildEdgesWrongFalsely : Prop := buildEdgesRow.holds Try.pinned (OpenSpec.ofChange buildEdgesWrong)

/-- 'thronglaw8.BuildAdds': WHATEVER THE INPUT: true; the input reads as it did. -/
def buildAddsSpec : ChangeSpec := { name := "buildAdds", fn := fun _ => fun
  | [d] => { results := [.lit (.bool true)], args := [d] }
  | _ => none }
def buildAddsRow : OpenClaim := { program := "ytgpjjcncdaelpaa", sum := "caf420e31b78153d08d23ea95125b16bf582b050908b5d8e6235e4468b81e07b", func := "throng/thronglaw8.BuildAdds", spec := "buildAdds", inPlace := ["slices.overlaps[throng/api.Building]"], unfollowed := true, recurses := true, apart := false }
def BuildAddsSaid : Prop := buildAddsRow.holds Try.pinned (OpenSpec.ofChange buildAddsSpec)

/-- ITS FALSE NEIGHBOUR: 'it returns false'. Refute it at one input. -/
def buildAddsWrong : ChangeSpec := { name := "buildAdds", fn := fun _ => fun
  | [d] => { results := [.lit (.bool false)], args := [d] }
  | _ => none }
def BuildAddsWrongFalsely : Prop := buildAddsRow.holds Try.pinned (OpenSpec.ofChange buildAddsWrong)

/-- 'thronglaw8.BuildCovers': WHATEVER THE INPUT: true; the input reads as it did. -/
def buildCoversSpec : ChangeSpec := { name := "buildCovers", fn := fun _ => fun
  | [d] => { results := [.lit (.bool true)], args := [d] }
  | _ => none }
def buildCoversRow : OpenClaim := { program := "ytgpjjcncdaelpaa", sum := "caf420e31b78153d08d23ea95125b16bf582b050908b5d8e6235e4468b81e07b", func := "throng/thronglaw8.BuildCovers", spec := "buildCovers", inPlace := ["slices.overlaps[throng/api.Building]"], unfollowed := true, recurses := true, apart := false }
def BuildCoversSaid : Prop := buildCoversRow.holds Try.pinned (OpenSpec.ofChange buildCoversSpec)

/-- ITS FALSE NEIGHBOUR: 'it returns false'. Refute it at one input. -/
def buildCoversWrong : ChangeSpec := { name := "buildCovers", fn := fun _ => fun
  | [d] => { results := [.lit (.bool false)], args := [d] }
  | _ => none }
def BuildCoversWrongFalsely : Prop := buildCoversRow.holds Try.pinned (OpenSpec.ofChange buildCoversWrong)

/-- 'thronglaw8.BuildDrops': WHATEVER THE INPUT: true; the input reads as it did. -/
def buildDropsSpec : ChangeSpec := { name := "buildDrops", fn := fun _ => fun
  | [d] => { results := [.lit (.bool true)], args := [d] }
  | _ => none }
def buildDropsRow : OpenClaim := { program := "ytgpjjcncdaelpaa", sum := "caf420e31b78153d08d23ea95125b16bf582b050908b5d8e6235e4468b81e07b", func := "throng/thronglaw8.BuildDrops", spec := "buildDrops", inPlace := ["slices.overlaps[throng/api.Building]"], unfollowed := true, recurses := true, apart := false }
def BuildDropsSaid : Prop := buildDropsRow.holds Try.pinned (OpenSpec.ofChange buildDropsSpec)

/-- ITS FALSE NEIGHBOUR: 'it returns false'. Refute it at one input. -/
def buildDropsWrong : ChangeSpec := { name := "buildDrops", fn := fun _ => fun
  | [d] => { results := [.lit (.bool false)], args := [d] }
  | _ => none }
def BuildDropsWrongFalsely : Prop := buildDropsRow.holds Try.pinned (OpenSpec.ofChange buildDropsWrong)

/-- 'thronglaw8.BuildOrders': WHATEVER THE INPUT: true; the input reads as it did. -/
def buildOrdersSpec : ChangeSpec := { name := "buildOrders", fn := fun _ => fun
  | [d] => { results := [.lit (.bool true)], args := [d] }
  | _ => none }
def buildOrdersRow : OpenClaim := { program := "ytgpjjcncdaelpaa", sum := "caf420e31b78153d08d23ea95125b16bf582b050908b5d8e6235e4468b81e07b", func := "throng/thronglaw8.BuildOrders", spec := "buildOrders", inPlace := ["slices.overlaps[throng/api.Building]"], unfollowed := true, recurses := true, apart := false }
def BuildOrdersSaid : Prop := buildOrdersRow.holds Try.pinned (OpenSpec.ofChange buildOrdersSpec)

/-- ITS FALSE NEIGHBOUR: 'it returns false'. Refute it at one input. -/
def buildOrdersWrong : ChangeSpec := { name := "buildOrders", fn := fun _ => fun
  | [d] => { results := [.lit (.bool false)], args := [d] }
  | _ => none }
def BuildOrdersWrongFalsely : Prop := buildOrdersRow.holds Try.pinned (OpenSpec.ofChange buildOrdersWrong)

/-- 'thronglaw13.FieldMakes': WHATEVER THE INPUT: true; the input reads as it did. -/
def fieldMakesSpec : ChangeSpec := { name := "fieldMakes", fn := fun _ => fun
  | [d] => { results := [.lit (.bool true)], args := [d] }
  | _ => none }
def fieldMakesRow : OpenClaim := { program := "ytgpjjcncdaelpaa", sum := "caf420e31b78153d08d23ea95125b16bf582b050908b5d8e6235e4468b81e07b", func := "throng/thronglaw13.FieldMakes", spec := "fieldMakes", unfollowed := true, recurses := true, apart := false }
def FieldMakesSaid : Prop := fieldMakesRow.holds Try.pinned (OpenSpec.ofChange fieldMakesSpec)

/-- ITS FALSE NEIGHBOUR: 'it returns false'. Refute it at one input. -/
def fieldMakesWrong : ChangeSpec := { name := "fieldMakes", fn := fun _ => fun
  | [d] => { results := [.lit (.bool false)], args := [d] }
  | _ => none }
def FieldMakesWrongFalsely : Prop := fieldMakesRow.holds Try.pinned (OpenSpec.ofChange fieldMakesWrong)

/-- 'thronglaw13.FieldTurned': WHATEVER THE INPUT: true; the input reads as it did. -/
def fieldTurnedSpec : ChangeSpec := { name := "fieldTurned", fn := fun _ => fun
  | [d] => { results := [.lit (.bool true)], args := [d] }
  | _ => none }
def fieldTurnedRow : OpenClaim := { program := "ytgpjjcncdaelpaa", sum := "caf420e31b78153d08d23ea95125b16bf582b050908b5d8e6235e4468b81e07b", func := "throng/thronglaw13.FieldTurned", spec := "fieldTurned", unfollowed := true, recurses := true, apart := false }
def FieldTurnedSaid : Prop := fieldTurnedRow.holds Try.pinned (OpenSpec.ofChange fieldTurnedSpec)

/-- ITS FALSE NEIGHBOUR: 'it returns false'. Refute it at one input. -/
def fieldTurnedWrong : ChangeSpec := { name := "fieldTurned", fn := fun _ => fun
  | [d] => { results := [.lit (.bool false)], args := [d] }
  | _ => none }
def FieldTurnedWrongFalsely : Prop := fieldTurnedRow.holds Try.pinned (OpenSpec.ofChange fieldTurnedWrong)

/-- 'thronglaw13.FieldPlain': WHATEVER THE INPUT: true; the input reads as it did. -/
def fieldPlainSpec : ChangeSpec := { name := "fieldPlain", fn := fun _ => fun
  | [d] => { results := [.lit (.bool true)], args := [d] }
  | _ => none }
def fieldPlainRow : OpenClaim := { program := "ytgpjjcncdaelpaa", sum := "caf420e31b78153d08d23ea95125b16bf582b050908b5d8e6235e4468b81e07b", func := "throng/thronglaw13.FieldPlain", spec := "fieldPlain", unfollowed := true, recurses := true, apart := false }
def FieldPlainSaid : Prop := fieldPlainRow.holds Try.pinned (OpenSpec.ofChange fieldPlainSpec)

/-- ITS FALSE NEIGHBOUR: 'it returns false'. Refute it at one input. -/
def fieldPlainWrong : ChangeSpec := { name := "fieldPlain", fn := fun _ => fun
  | [d] => { results := [.lit (.bool false)], args := [d] }
  | _ => none }
def FieldPlainWrongFalsely : Prop := fieldPlainRow.holds Try.pinned (OpenSpec.ofChange fieldPlainWrong)

/-- 'thronglaw13.FieldRoads': WHATEVER THE INPUT: true; the input reads as it did. -/
def fieldRoadsSpec : ChangeSpec := { name := "fieldRoads", fn := fun _ => fun
  | [d] => { results := [.lit (.bool true)], args := [d] }
  | _ => none }
def fieldRoadsRow : OpenClaim := { program := "ytgpjjcncdaelpaa", sum := "caf420e31b78153d08d23ea95125b16bf582b050908b5d8e6235e4468b81e07b", func := "throng/thronglaw13.FieldRoads", spec := "fieldRoads", unfollowed := true, recurses := true, apart := false }
def FieldRoadsSaid : Prop := fieldRoadsRow.holds Try.pinned (OpenSpec.ofChange fieldRoadsSpec)

/-- ITS FALSE NEIGHBOUR: 'it returns false'. Refute it at one input. -/
def fieldRoadsWrong : ChangeSpec := { name := "fieldRoads", fn := fun _ => fun
  | [d] => { results := [.lit (.bool false)], args := [d] }
  | _ => none }
def FieldRoadsWrongFalsely : Prop := fieldRoadsRow.holds Try.pinned (OpenSpec.ofChange fieldRoadsWrong)

/-- 'thronglaw13.FieldGoods': WHATEVER THE INPUT: true; the input reads as it did. -/
def fieldGoodsSpec : ChangeSpec := { name := "fieldGoods", fn := fun _ => fun
  | [d] => { results := [.lit (.bool true)], args := [d] }
  | _ => none }
def fieldGoodsRow : OpenClaim := { program := "ytgpjjcncdaelpaa", sum := "caf420e31b78153d08d23ea95125b16bf582b050908b5d8e6235e4468b81e07b", func := "throng/thronglaw13.FieldGoods", spec := "fieldGoods", unfollowed := true, recurses := true, apart := false }
def FieldGoodsSaid : Prop := fieldGoodsRow.holds Try.pinned (OpenSpec.ofChange fieldGoodsSpec)

/-- ITS FALSE NEIGHBOUR: 'it returns false'. Refute it at one input. -/
def fieldGoodsWrong : ChangeSpec := { name := "fieldGoods", fn := fun _ => fun
  | [d] => { results := [.lit (.bool false)], args := [d] }
  | _ => none }
def FieldGoodsWrongFalsely : Prop := fieldGoodsRow.holds Try.pinned (OpenSpec.ofChange fieldGoodsWrong)

/-- 'thronglaw13.FieldSizes': WHATEVER THE INPUT: true; the input reads as it did. -/
def fieldSizesSpec : ChangeSpec := { name := "fieldSizes", fn := fun _ => fun
  | [d] => { results := [.lit (.bool true)], args := [d] }
  | _ => none }
def fieldSizesRow : OpenClaim := { program := "ytgpjjcncdaelpaa", sum := "caf420e31b78153d08d23ea95125b16bf582b050908b5d8e6235e4468b81e07b", func := "throng/thronglaw13.FieldSizes", spec := "fieldSizes", unfollowed := true, recurses := true, apart := false }
def FieldSizesSaid : Prop := fieldSizesRow.holds Try.pinned (OpenSpec.ofChange fieldSizesSpec)

/-- ITS FALSE NEIGHBOUR: 'it returns false'. Refute it at one input. -/
def fieldSizesWrong : ChangeSpec := { name := "fieldSizes", fn := fun _ => fun
  | [d] => { results := [.lit (.bool false)], args := [d] }
  | _ => none }
def FieldSizesWrongFalsely : Prop := fieldSizesRow.holds Try.pinned (OpenSpec.ofChange fieldSizesWrong)

/-- 'thronglaw13.FieldDirs': WHATEVER THE INPUT: true; the input reads as it did. -/
def fieldDirsSpec : ChangeSpec := { name := "fieldDirs", fn := fun _ => fun
  | [d] => { results := [.lit (.bool true)], args := [d] }
  | _ => none }
def fieldDirsRow : OpenClaim := { program := "ytgpjjcncdaelpaa", sum := "caf420e31b78153d08d23ea95125b16bf582b050908b5d8e6235e4468b81e07b", func := "throng/thronglaw13.FieldDirs", spec := "fieldDirs", unfollowed := true, recurses := true, apart := false }
def FieldDirsSaid : Prop := fieldDirsRow.holds Try.pinned (OpenSpec.ofChange fieldDirsSpec)

/-- ITS FALSE NEIGHBOUR: 'it returns false'. Refute it at one input. -/
def fieldDirsWrong : ChangeSpec := { name := "fieldDirs", fn := fun _ => fun
  | [d] => { results := [.lit (.bool false)], args := [d] }
  | _ => none }
def FieldDirsWrongFalsely : Prop := fieldDirsRow.holds Try.pinned (OpenSpec.ofChange fieldDirsWrong)

/-- 'thronglaw13.FieldGoes': WHATEVER THE INPUT: true; the input reads as it did. -/
def fieldGoesSpec : ChangeSpec := { name := "fieldGoes", fn := fun _ => fun
  | [d] => { results := [.lit (.bool true)], args := [d] }
  | _ => none }
def fieldGoesRow : OpenClaim := { program := "ytgpjjcncdaelpaa", sum := "caf420e31b78153d08d23ea95125b16bf582b050908b5d8e6235e4468b81e07b", func := "throng/thronglaw13.FieldGoes", spec := "fieldGoes", unfollowed := true, recurses := true, apart := false }
def FieldGoesSaid : Prop := fieldGoesRow.holds Try.pinned (OpenSpec.ofChange fieldGoesSpec)

/-- ITS FALSE NEIGHBOUR: 'it returns false'. Refute it at one input. -/
def fieldGoesWrong : ChangeSpec := { name := "fieldGoes", fn := fun _ => fun
  | [d] => { results := [.lit (.bool false)], args := [d] }
  | _ => none }
def FieldGoesWrongFalsely : Prop := fieldGoesRow.holds Try.pinned (OpenSpec.ofChange fieldGoesWrong)

/- THE SECOND FORM. 'bulk': how many values and letters a reading holds, each counted each time it is reached (what is shared counts as often as it is met; a slice's spare places count too). A statement '..UptoSaid' is the law's where the arguments, and the package variables that the reading takes, are together of bulk at most 1048576: NARROWER than '..Said'. Prove '..Said' where nothing that the law and all that it calls make is longer than what came in: it says more and counts as full. Else prove '..UptoSaid'. A law counts once. -/
mutual
def uptoBulk {H : Type} : DataW H → Nat
  | .lit (.string bytes) => bytes.length + 1
  | .lit _ => 1
  | .nil => 1
  | .ptr d => uptoBulk d + 1
  | .slice elems spare => uptoBulkAll elems + uptoBulkAll spare + 1
  | .agg parts => uptoBulkAll parts + 1
  | .iface _ d => uptoBulk d + 1
  | .map entries => uptoBulkEntries entries + 1
  | .held _ => 1
def uptoBulkAll {H : Type} : List (DataW H) → Nat
  | [] => 0
  | d :: r => uptoBulk d + uptoBulkAll r
def uptoBulkEntries {H : Type} : List (Lit × DataW H) → Nat
  | [] => 0
  | x :: r => uptoBulkEntry x + uptoBulkEntries r
def uptoBulkEntry {H : Type} : Lit × DataW H → Nat
  | (.string bytes, d) => bytes.length + uptoBulk d + 1
  | (_, d) => uptoBulk d + 1
 end
def uptoSmall : (H : Type) → List (DataW H) → Bool := fun _ ds => decide (uptoBulkAll ds ≤ 1048576)
def OpenSpec.upto (s : _root_.Go.ChangeSpec) : _root_.Go.OpenSpec := { _root_.Go.OpenSpec.ofChange s with cond := some uptoSmall }

/-- 'thronglaw8.BuildEdges', WHERE WHAT IT READS IS OF BULK AT MOST 1048576: true; the input reads as it did. -/
def buildEdgesUptoRow : OpenClaim := { program := "ytgpjjcncdaelpaa", sum := "caf420e31b78153d08d23ea95125b16bf582b050908b5d8e6235e4468b81e07b", func := "throng/thronglaw8.BuildEdges", spec := "buildEdges", inPlace := ["slices.overlaps[throng/api.Building]"], unfollowed := true, recurses := true, apart := false, narrowed := true }
def BuildEdgesUptoSaid : Prop := buildEdgesUptoRow.holds Try.pinned (OpenSpec.upto buildEdgesSpec)

/-- 'thronglaw8.BuildAdds', WHERE WHAT IT READS IS OF BULK AT MOST 1048576: true; the input reads as it did. -/
def buildAddsUptoRow : OpenClaim := { program := "ytgpjjcncdaelpaa", sum := "caf420e31b78153d08d23ea95125b16bf582b050908b5d8e6235e4468b81e07b", func := "throng/thronglaw8.BuildAdds", spec := "buildAdds", inPlace := ["slices.overlaps[throng/api.Building]"], unfollowed := true, recurses := true, apart := false, narrowed := true }
def BuildAddsUptoSaid : Prop := buildAddsUptoRow.holds Try.pinned (OpenSpec.upto buildAddsSpec)

/-- 'thronglaw8.BuildCovers', WHERE WHAT IT READS IS OF BULK AT MOST 1048576: true; the input reads as it did. -/
def buildCoversUptoRow : OpenClaim := { program := "ytgpjjcncdaelpaa", sum := "caf420e31b78153d08d23ea95125b16bf582b050908b5d8e6235e4468b81e07b", func := "throng/thronglaw8.BuildCovers", spec := "buildCovers", inPlace := ["slices.overlaps[throng/api.Building]"], unfollowed := true, recurses := true, apart := false, narrowed := true }
def BuildCoversUptoSaid : Prop := buildCoversUptoRow.holds Try.pinned (OpenSpec.upto buildCoversSpec)

/-- 'thronglaw8.BuildDrops', WHERE WHAT IT READS IS OF BULK AT MOST 1048576: true; the input reads as it did. -/
def buildDropsUptoRow : OpenClaim := { program := "ytgpjjcncdaelpaa", sum := "caf420e31b78153d08d23ea95125b16bf582b050908b5d8e6235e4468b81e07b", func := "throng/thronglaw8.BuildDrops", spec := "buildDrops", inPlace := ["slices.overlaps[throng/api.Building]"], unfollowed := true, recurses := true, apart := false, narrowed := true }
def BuildDropsUptoSaid : Prop := buildDropsUptoRow.holds Try.pinned (OpenSpec.upto buildDropsSpec)

/-- 'thronglaw8.BuildOrders', WHERE WHAT IT READS IS OF BULK AT MOST 1048576: true; the input reads as it did. -/
def buildOrdersUptoRow : OpenClaim := { program := "ytgpjjcncdaelpaa", sum := "caf420e31b78153d08d23ea95125b16bf582b050908b5d8e6235e4468b81e07b", func := "throng/thronglaw8.BuildOrders", spec := "buildOrders", inPlace := ["slices.overlaps[throng/api.Building]"], unfollowed := true, recurses := true, apart := false, narrowed := true }
def BuildOrdersUptoSaid : Prop := buildOrdersUptoRow.holds Try.pinned (OpenSpec.upto buildOrdersSpec)

/-- 'thronglaw13.FieldMakes', WHERE WHAT IT READS IS OF BULK AT MOST 1048576: true; the input reads as it did. -/
def fieldMakesUptoRow : OpenClaim := { program := "ytgpjjcncdaelpaa", sum := "caf420e31b78153d08d23ea95125b16bf582b050908b5d8e6235e4468b81e07b", func := "throng/thronglaw13.FieldMakes", spec := "fieldMakes", unfollowed := true, recurses := true, apart := false, narrowed := true }
def FieldMakesUptoSaid : Prop := fieldMakesUptoRow.holds Try.pinned (OpenSpec.upto fieldMakesSpec)

/-- 'thronglaw13.FieldTurned', WHERE WHAT IT READS IS OF BULK AT MOST 1048576: true; the input reads as it did. -/
def fieldTurnedUptoRow : OpenClaim := { program := "ytgpjjcncdaelpaa", sum := "caf420e31b78153d08d23ea95125b16bf582b050908b5d8e6235e4468b81e07b", func := "throng/thronglaw13.FieldTurned", spec := "fieldTurned", unfollowed := true, recurses := true, apart := false, narrowed := true }
def FieldTurnedUptoSaid : Prop := fieldTurnedUptoRow.holds Try.pinned (OpenSpec.upto fieldTurnedSpec)

/-- 'thronglaw13.FieldPlain', WHERE WHAT IT READS IS OF BULK AT MOST 1048576: true; the input reads as it did. -/
def fieldPlainUptoRow : OpenClaim := { program := "ytgpjjcncdaelpaa", sum := "caf420e31b78153d08d23ea95125b16bf582b050908b5d8e6235e4468b81e07b", func := "throng/thronglaw13.FieldPlain", spec := "fieldPlain", unfollowed := true, recurses := true, apart := false, narrowed := true }
def FieldPlainUptoSaid : Prop := fieldPlainUptoRow.holds Try.pinned (OpenSpec.upto fieldPlainSpec)

/-- 'thronglaw13.FieldRoads', WHERE WHAT IT READS IS OF BULK AT MOST 1048576: true; the input reads as it did. -/
def fieldRoadsUptoRow : OpenClaim := { program := "ytgpjjcncdaelpaa", sum := "caf420e31b78153d08d23ea95125b16bf582b050908b5d8e6235e4468b81e07b", func := "throng/thronglaw13.FieldRoads", spec := "fieldRoads", unfollowed := true, recurses := true, apart := false, narrowed := true }
def FieldRoadsUptoSaid : Prop := fieldRoadsUptoRow.holds Try.pinned (OpenSpec.upto fieldRoadsSpec)

/-- 'thronglaw13.FieldGoods', WHERE WHAT IT READS IS OF BULK AT MOST 1048576: true; the input reads as it did. -/
def fieldGoodsUptoRow : OpenClaim := { program := "ytgpjjcncdaelpaa", sum := "caf420e31b78153d08d23ea95125b16bf582b050908b5d8e6235e4468b81e07b", func := "throng/thronglaw13.FieldGoods", spec := "fieldGoods", unfollowed := true, recurses := true, apart := false, narrowed := true }
def FieldGoodsUptoSaid : Prop := fieldGoodsUptoRow.holds Try.pinned (OpenSpec.upto fieldGoodsSpec)

/-- 'thronglaw13.FieldSizes', WHERE WHAT IT READS IS OF BULK AT MOST 1048576: true; the input reads as it did. -/
def fieldSizesUptoRow : OpenClaim := { program := "ytgpjjcncdaelpaa", sum := "caf420e31b78153d08d23ea95125b16bf582b050908b5d8e6235e4468b81e07b", func := "throng/thronglaw13.FieldSizes", spec := "fieldSizes", unfollowed := true, recurses := true, apart := false, narrowed := true }
def FieldSizesUptoSaid : Prop := fieldSizesUptoRow.holds Try.pinned (OpenSpec.upto fieldSizesSpec)

/-- 'thronglaw13.FieldDirs', WHERE WHAT IT READS IS OF BULK AT MOST 1048576: true; the input reads as it did. -/
def fieldDirsUptoRow : OpenClaim := { program := "ytgpjjcncdaelpaa", sum := "caf420e31b78153d08d23ea95125b16bf582b050908b5d8e6235e4468b81e07b", func := "throng/thronglaw13.FieldDirs", spec := "fieldDirs", unfollowed := true, recurses := true, apart := false, narrowed := true }
def FieldDirsUptoSaid : Prop := fieldDirsUptoRow.holds Try.pinned (OpenSpec.upto fieldDirsSpec)

/-- 'thronglaw13.FieldGoes', WHERE WHAT IT READS IS OF BULK AT MOST 1048576: true; the input reads as it did. -/
def fieldGoesUptoRow : OpenClaim := { program := "ytgpjjcncdaelpaa", sum := "caf420e31b78153d08d23ea95125b16bf582b050908b5d8e6235e4468b81e07b", func := "throng/thronglaw13.FieldGoes", spec := "fieldGoes", unfollowed := true, recurses := true, apart := false, narrowed := true }
def FieldGoesUptoSaid : Prop := fieldGoesUptoRow.holds Try.pinned (OpenSpec.upto fieldGoesSpec)

end Rows
end Go.Proofs.Ytgpjjcncdaelpaa
