/-
  No cell of these rows narrows 'for every input' (looked for: loops, veiled, ifaces, maps, wideKeys, modest, calm, conditions, laid).
  DERIVED. THE GIVEN ROWS OF THIS SEAT. 11 by the template 'for every input the law returns true; each argument reads behind the call as it read before'; 0 by the template 'total and deterministic' (their statements: YtacpdjccbadomaaTotals.lean).
  GIVEN WITH THE SEED: the statements are not yours to turn. If you find one false, say at which input.
  Laid BY PROGRAM, IN A SANDBOX (cutbox-rows.mjs): the forced cells as the released guide's own fill.sh prints them over the translation db433def5a9e8ad1… (all of the seat's roots in one cut). By AI agents, Wed Nov 11 2026. No macro, syntax, notation, axiom, sorry.
-/
import Derived.Test.YtacpdjccbadomaaChecked
import GoSem.Claim
import GoSem.ClaimJoined
import GoSem.ClaimMapViews
import Derived.JoinedTies
import Derived.KernelRfl
namespace Go.Proofs.Ytacpdjccbadomaa
/- THE CELL 'sum', in the pinned program and in every row, IS THE sha256 OF THE DUMP (.gsa) THAT YtacpdjccbadomaaProg.lean LOADS. Nothing in Lean hashes anything: it is a label: what it is worth is what the hold of that sum in a sandbox is worth. -/
noncomputable def Try.pinned : Pinned := { name := "ytacpdjccbadomaa", sum := "db433def5a9e8ad154bd980ff89e3c17d93bbbc178abc2583803b85a1a724f04", checked := Try.checked }
namespace Rows
def none {H : Type} : Left H := { results := [], args := [] }

/-- 'thronglaw12.QueueExact': WHATEVER THE INPUT: true; the input reads as it did. -/
def queueExactSpec : ChangeSpec := { name := "queueExact", fn := fun _ => fun
  | [d] => { results := [.lit (.bool true)], args := [d] }
  | _ => none }
def queueExactRow : OpenClaim := { program := "ytacpdjccbadomaa", sum := "db433def5a9e8ad154bd980ff89e3c17d93bbbc178abc2583803b85a1a724f04", func := "throng/thronglaw12.QueueExact", spec := "queueExact", apart := false }
def QueueExactSaid : Prop := queueExactRow.holds Try.pinned (OpenSpec.ofChange queueExactSpec)

/-- ITS FALSE NEIGHBOUR: 'it returns false'. Refute it at one input. -/
def queueExactWrong : ChangeSpec := { name := "queueExact", fn := fun _ => fun
  | [d] => { results := [.lit (.bool false)], args := [d] }
  | _ => none }
def QueueExactWrongFalsely : Prop := queueExactRow.holds Try.pinned (OpenSpec.ofChange queueExactWrong)

/-- 'thronglaw12.QueueRises': WHATEVER THE INPUT: true; the input reads as it did. -/
def queueRisesSpec : ChangeSpec := { name := "queueRises", fn := fun _ => fun
  | [d] => { results := [.lit (.bool true)], args := [d] }
  | _ => none }
def queueRisesRow : OpenClaim := { program := "ytacpdjccbadomaa", sum := "db433def5a9e8ad154bd980ff89e3c17d93bbbc178abc2583803b85a1a724f04", func := "throng/thronglaw12.QueueRises", spec := "queueRises", apart := false }
def QueueRisesSaid : Prop := queueRisesRow.holds Try.pinned (OpenSpec.ofChange queueRisesSpec)

/-- ITS FALSE NEIGHBOUR: 'it returns false'. Refute it at one input. -/
def queueRisesWrong : ChangeSpec := { name := "queueRises", fn := fun _ => fun
  | [d] => { results := [.lit (.bool false)], args := [d] }
  | _ => none }
def QueueRisesWrongFalsely : Prop := queueRisesRow.holds Try.pinned (OpenSpec.ofChange queueRisesWrong)

/-- 'thronglaw12.QueueMixed': WHATEVER THE INPUT: true; the input reads as it did. -/
def queueMixedSpec : ChangeSpec := { name := "queueMixed", fn := fun _ => fun
  | [d] => { results := [.lit (.bool true)], args := [d] }
  | _ => none }
def queueMixedRow : OpenClaim := { program := "ytacpdjccbadomaa", sum := "db433def5a9e8ad154bd980ff89e3c17d93bbbc178abc2583803b85a1a724f04", func := "throng/thronglaw12.QueueMixed", spec := "queueMixed", apart := false }
def QueueMixedSaid : Prop := queueMixedRow.holds Try.pinned (OpenSpec.ofChange queueMixedSpec)

/-- ITS FALSE NEIGHBOUR: 'it returns false'. Refute it at one input. -/
def queueMixedWrong : ChangeSpec := { name := "queueMixed", fn := fun _ => fun
  | [d] => { results := [.lit (.bool false)], args := [d] }
  | _ => none }
def QueueMixedWrongFalsely : Prop := queueMixedRow.holds Try.pinned (OpenSpec.ofChange queueMixedWrong)

/-- 'thronglaw10.SectorParts': WHATEVER THE INPUT: true; the input reads as it did. -/
def sectorPartsSpec : ChangeSpec := { name := "sectorParts", fn := fun _ => fun
  | [d] => { results := [.lit (.bool true)], args := [d] }
  | _ => none }
def sectorPartsRow : OpenClaim := { program := "ytacpdjccbadomaa", sum := "db433def5a9e8ad154bd980ff89e3c17d93bbbc178abc2583803b85a1a724f04", func := "throng/thronglaw10.SectorParts", spec := "sectorParts", apart := false }
def SectorPartsSaid : Prop := sectorPartsRow.holds Try.pinned (OpenSpec.ofChange sectorPartsSpec)

/-- ITS FALSE NEIGHBOUR: 'it returns false'. Refute it at one input. -/
def sectorPartsWrong : ChangeSpec := { name := "sectorParts", fn := fun _ => fun
  | [d] => { results := [.lit (.bool false)], args := [d] }
  | _ => none }
def SectorPartsWrongFalsely : Prop := sectorPartsRow.holds Try.pinned (OpenSpec.ofChange sectorPartsWrong)

/-- 'thronglaw10.SectorNumbers': WHATEVER THE INPUT: true; the input reads as it did. -/
def sectorNumbersSpec : ChangeSpec := { name := "sectorNumbers", fn := fun _ => fun
  | [d] => { results := [.lit (.bool true)], args := [d] }
  | _ => none }
def sectorNumbersRow : OpenClaim := { program := "ytacpdjccbadomaa", sum := "db433def5a9e8ad154bd980ff89e3c17d93bbbc178abc2583803b85a1a724f04", func := "throng/thronglaw10.SectorNumbers", spec := "sectorNumbers", apart := false }
def SectorNumbersSaid : Prop := sectorNumbersRow.holds Try.pinned (OpenSpec.ofChange sectorNumbersSpec)

/-- ITS FALSE NEIGHBOUR: 'it returns false'. Refute it at one input. -/
def sectorNumbersWrong : ChangeSpec := { name := "sectorNumbers", fn := fun _ => fun
  | [d] => { results := [.lit (.bool false)], args := [d] }
  | _ => none }
def SectorNumbersWrongFalsely : Prop := sectorNumbersRow.holds Try.pinned (OpenSpec.ofChange sectorNumbersWrong)

/-- 'thronglaw10.SectorEdges': WHATEVER THE INPUT: true; the input reads as it did. -/
def sectorEdgesSpec : ChangeSpec := { name := "sectorEdges", fn := fun _ => fun
  | [d] => { results := [.lit (.bool true)], args := [d] }
  | _ => none }
def sectorEdgesRow : OpenClaim := { program := "ytacpdjccbadomaa", sum := "db433def5a9e8ad154bd980ff89e3c17d93bbbc178abc2583803b85a1a724f04", func := "throng/thronglaw10.SectorEdges", spec := "sectorEdges", apart := false }
def SectorEdgesSaid : Prop := sectorEdgesRow.holds Try.pinned (OpenSpec.ofChange sectorEdgesSpec)

/-- ITS FALSE NEIGHBOUR: 'it returns false'. Refute it at one input. -/
def sectorEdgesWrong : ChangeSpec := { name := "sectorEdges", fn := fun _ => fun
  | [d] => { results := [.lit (.bool false)], args := [d] }
  | _ => none }
def SectorEdgesWrongFalsely : Prop := sectorEdgesRow.holds Try.pinned (OpenSpec.ofChange sectorEdgesWrong)

/-- 'thronglaw10.SectorRedo': WHATEVER THE INPUT: true; the input reads as it did. -/
def sectorRedoSpec : ChangeSpec := { name := "sectorRedo", fn := fun _ => fun
  | [d] => { results := [.lit (.bool true)], args := [d] }
  | _ => none }
def sectorRedoRow : OpenClaim := { program := "ytacpdjccbadomaa", sum := "db433def5a9e8ad154bd980ff89e3c17d93bbbc178abc2583803b85a1a724f04", func := "throng/thronglaw10.SectorRedo", spec := "sectorRedo", apart := false }
def SectorRedoSaid : Prop := sectorRedoRow.holds Try.pinned (OpenSpec.ofChange sectorRedoSpec)

/-- ITS FALSE NEIGHBOUR: 'it returns false'. Refute it at one input. -/
def sectorRedoWrong : ChangeSpec := { name := "sectorRedo", fn := fun _ => fun
  | [d] => { results := [.lit (.bool false)], args := [d] }
  | _ => none }
def SectorRedoWrongFalsely : Prop := sectorRedoRow.holds Try.pinned (OpenSpec.ofChange sectorRedoWrong)

/-- 'thronglaw10.SectorWhole': WHATEVER THE INPUT: true; the input reads as it did. -/
def sectorWholeSpec : ChangeSpec := { name := "sectorWhole", fn := fun _ => fun
  | [d] => { results := [.lit (.bool true)], args := [d] }
  | _ => none }
def sectorWholeRow : OpenClaim := { program := "ytacpdjccbadomaa", sum := "db433def5a9e8ad154bd980ff89e3c17d93bbbc178abc2583803b85a1a724f04", func := "throng/thronglaw10.SectorWhole", spec := "sectorWhole", apart := false }
def SectorWholeSaid : Prop := sectorWholeRow.holds Try.pinned (OpenSpec.ofChange sectorWholeSpec)

/-- ITS FALSE NEIGHBOUR: 'it returns false'. Refute it at one input. -/
def sectorWholeWrong : ChangeSpec := { name := "sectorWhole", fn := fun _ => fun
  | [d] => { results := [.lit (.bool false)], args := [d] }
  | _ => none }
def SectorWholeWrongFalsely : Prop := sectorWholeRow.holds Try.pinned (OpenSpec.ofChange sectorWholeWrong)

/-- 'thronglaw15.CacheHolds': WHATEVER THE INPUT: true; the input reads as it did. -/
def cacheHoldsSpec : ChangeSpec := { name := "cacheHolds", fn := fun _ => fun
  | [d] => { results := [.lit (.bool true)], args := [d] }
  | _ => none }
def cacheHoldsRow : OpenClaim := { program := "ytacpdjccbadomaa", sum := "db433def5a9e8ad154bd980ff89e3c17d93bbbc178abc2583803b85a1a724f04", func := "throng/thronglaw15.CacheHolds", spec := "cacheHolds", inPlace := ["slices.overlaps[int]", "sync/atomic.AddInt64", "sync/atomic.LoadInt64"], apart := false }
def CacheHoldsSaid : Prop := cacheHoldsRow.holds Try.pinned (OpenSpec.ofChange cacheHoldsSpec)

/-- ITS FALSE NEIGHBOUR: 'it returns false'. Refute it at one input. -/
def cacheHoldsWrong : ChangeSpec := { name := "cacheHolds", fn := fun _ => fun
  | [d] => { results := [.lit (.bool false)], args := [d] }
  | _ => none }
def CacheHoldsWrongFalsely : Prop := cacheHoldsRow.holds Try.pinned (OpenSpec.ofChange cacheHoldsWrong)

/-- 'thronglaw15.CacheExact': WHATEVER THE INPUT: true; the input reads as it did. -/
def cacheExactSpec : ChangeSpec := { name := "cacheExact", fn := fun _ => fun
  | [d] => { results := [.lit (.bool true)], args := [d] }
  | _ => none }
def cacheExactRow : OpenClaim := { program := "ytacpdjccbadomaa", sum := "db433def5a9e8ad154bd980ff89e3c17d93bbbc178abc2583803b85a1a724f04", func := "throng/thronglaw15.CacheExact", spec := "cacheExact", inPlace := ["slices.overlaps[int]", "sync/atomic.AddInt64", "sync/atomic.LoadInt64"], apart := false }
def CacheExactSaid : Prop := cacheExactRow.holds Try.pinned (OpenSpec.ofChange cacheExactSpec)

/-- ITS FALSE NEIGHBOUR: 'it returns false'. Refute it at one input. -/
def cacheExactWrong : ChangeSpec := { name := "cacheExact", fn := fun _ => fun
  | [d] => { results := [.lit (.bool false)], args := [d] }
  | _ => none }
def CacheExactWrongFalsely : Prop := cacheExactRow.holds Try.pinned (OpenSpec.ofChange cacheExactWrong)

/-- 'thronglaw15.CacheOrder': WHATEVER THE INPUT: true; the input reads as it did. -/
def cacheOrderSpec : ChangeSpec := { name := "cacheOrder", fn := fun _ => fun
  | [d] => { results := [.lit (.bool true)], args := [d] }
  | _ => none }
def cacheOrderRow : OpenClaim := { program := "ytacpdjccbadomaa", sum := "db433def5a9e8ad154bd980ff89e3c17d93bbbc178abc2583803b85a1a724f04", func := "throng/thronglaw15.CacheOrder", spec := "cacheOrder", inPlace := ["slices.overlaps[int]", "sync/atomic.AddInt64", "sync/atomic.LoadInt64"], apart := false }
def CacheOrderSaid : Prop := cacheOrderRow.holds Try.pinned (OpenSpec.ofChange cacheOrderSpec)

/-- ITS FALSE NEIGHBOUR: 'it returns false'. Refute it at one input. -/
def cacheOrderWrong : ChangeSpec := { name := "cacheOrder", fn := fun _ => fun
  | [d] => { results := [.lit (.bool false)], args := [d] }
  | _ => none }
def CacheOrderWrongFalsely : Prop := cacheOrderRow.holds Try.pinned (OpenSpec.ofChange cacheOrderWrong)

/- THE SECOND FORM. 'bulk': how many values and letters a reading holds, each counted each time it is reached (what is shared counts as often as it is met; a slice's spare places count too). A statement '..UptoSaid' is the law's where the arguments, and the package variables that the reading takes, are together of bulk at most 1048576: NARROWER than '..Said'. Prove '..Said' where nothing that the law and all that it calls make is longer than what came in: it says more and counts as full. Else prove '..UptoSaid'. A law counts once. -/
mutual
def uptoBulk {H : Type} : DataW H → Nat
  | .lit (.string bytes) => bytes.length + 1
  | .lit _ => 1
  | .nil => 1
  | .ptr d => uptoBulk d + 1
  | .slice elems spare => uptoBulkAll elems + uptoBulkAll spare + 1
  | .agg parts => uptoBulkAll parts + 1
  | .iface _ d => uptoBulk d + 1
  | .map entries => uptoBulkEntries entries + 1
  | .held _ => 1
def uptoBulkAll {H : Type} : List (DataW H) → Nat
  | [] => 0
  | d :: r => uptoBulk d + uptoBulkAll r
def uptoBulkEntries {H : Type} : List (Lit × DataW H) → Nat
  | [] => 0
  | x :: r => uptoBulkEntry x + uptoBulkEntries r
def uptoBulkEntry {H : Type} : Lit × DataW H → Nat
  | (.string bytes, d) => bytes.length + uptoBulk d + 1
  | (_, d) => uptoBulk d + 1
 end
def uptoSmall : (H : Type) → List (DataW H) → Bool := fun _ ds => decide (uptoBulkAll ds ≤ 1048576)
def OpenSpec.upto (s : _root_.Go.ChangeSpec) : _root_.Go.OpenSpec := { _root_.Go.OpenSpec.ofChange s with cond := some uptoSmall }

/-- 'thronglaw12.QueueExact', WHERE WHAT IT READS IS OF BULK AT MOST 1048576: true; the input reads as it did. -/
def queueExactUptoRow : OpenClaim := { program := "ytacpdjccbadomaa", sum := "db433def5a9e8ad154bd980ff89e3c17d93bbbc178abc2583803b85a1a724f04", func := "throng/thronglaw12.QueueExact", spec := "queueExact", apart := false, narrowed := true }
def QueueExactUptoSaid : Prop := queueExactUptoRow.holds Try.pinned (OpenSpec.upto queueExactSpec)

/-- 'thronglaw12.QueueRises', WHERE WHAT IT READS IS OF BULK AT MOST 1048576: true; the input reads as it did. -/
def queueRisesUptoRow : OpenClaim := { program := "ytacpdjccbadomaa", sum := "db433def5a9e8ad154bd980ff89e3c17d93bbbc178abc2583803b85a1a724f04", func := "throng/thronglaw12.QueueRises", spec := "queueRises", apart := false, narrowed := true }
def QueueRisesUptoSaid : Prop := queueRisesUptoRow.holds Try.pinned (OpenSpec.upto queueRisesSpec)

/-- 'thronglaw12.QueueMixed', WHERE WHAT IT READS IS OF BULK AT MOST 1048576: true; the input reads as it did. -/
def queueMixedUptoRow : OpenClaim := { program := "ytacpdjccbadomaa", sum := "db433def5a9e8ad154bd980ff89e3c17d93bbbc178abc2583803b85a1a724f04", func := "throng/thronglaw12.QueueMixed", spec := "queueMixed", apart := false, narrowed := true }
def QueueMixedUptoSaid : Prop := queueMixedUptoRow.holds Try.pinned (OpenSpec.upto queueMixedSpec)

/-- 'thronglaw10.SectorParts', WHERE WHAT IT READS IS OF BULK AT MOST 1048576: true; the input reads as it did. -/
def sectorPartsUptoRow : OpenClaim := { program := "ytacpdjccbadomaa", sum := "db433def5a9e8ad154bd980ff89e3c17d93bbbc178abc2583803b85a1a724f04", func := "throng/thronglaw10.SectorParts", spec := "sectorParts", apart := false, narrowed := true }
def SectorPartsUptoSaid : Prop := sectorPartsUptoRow.holds Try.pinned (OpenSpec.upto sectorPartsSpec)

/-- 'thronglaw10.SectorNumbers', WHERE WHAT IT READS IS OF BULK AT MOST 1048576: true; the input reads as it did. -/
def sectorNumbersUptoRow : OpenClaim := { program := "ytacpdjccbadomaa", sum := "db433def5a9e8ad154bd980ff89e3c17d93bbbc178abc2583803b85a1a724f04", func := "throng/thronglaw10.SectorNumbers", spec := "sectorNumbers", apart := false, narrowed := true }
def SectorNumbersUptoSaid : Prop := sectorNumbersUptoRow.holds Try.pinned (OpenSpec.upto sectorNumbersSpec)

/-- 'thronglaw10.SectorEdges', WHERE WHAT IT READS IS OF BULK AT MOST 1048576: true; the input reads as it did. -/
def sectorEdgesUptoRow : OpenClaim := { program := "ytacpdjccbadomaa", sum := "db433def5a9e8ad154bd980ff89e3c17d93bbbc178abc2583803b85a1a724f04", func := "throng/thronglaw10.SectorEdges", spec := "sectorEdges", apart := false, narrowed := true }
def SectorEdgesUptoSaid : Prop := sectorEdgesUptoRow.holds Try.pinned (OpenSpec.upto sectorEdgesSpec)

/-- 'thronglaw10.SectorRedo', WHERE WHAT IT READS IS OF BULK AT MOST 1048576: true; the input reads as it did. -/
def sectorRedoUptoRow : OpenClaim := { program := "ytacpdjccbadomaa", sum := "db433def5a9e8ad154bd980ff89e3c17d93bbbc178abc2583803b85a1a724f04", func := "throng/thronglaw10.SectorRedo", spec := "sectorRedo", apart := false, narrowed := true }
def SectorRedoUptoSaid : Prop := sectorRedoUptoRow.holds Try.pinned (OpenSpec.upto sectorRedoSpec)

/-- 'thronglaw10.SectorWhole', WHERE WHAT IT READS IS OF BULK AT MOST 1048576: true; the input reads as it did. -/
def sectorWholeUptoRow : OpenClaim := { program := "ytacpdjccbadomaa", sum := "db433def5a9e8ad154bd980ff89e3c17d93bbbc178abc2583803b85a1a724f04", func := "throng/thronglaw10.SectorWhole", spec := "sectorWhole", apart := false, narrowed := true }
def SectorWholeUptoSaid : Prop := sectorWholeUptoRow.holds Try.pinned (OpenSpec.upto sectorWholeSpec)

/-- 'thronglaw15.CacheHolds', WHERE WHAT IT READS IS OF BULK AT MOST 1048576: true; the input reads as it did. -/
def cacheHoldsUptoRow : OpenClaim := { program := "ytacpdjccbadomaa", sum := "db433def5a9e8ad154bd980ff89e3c17d93bbbc178abc2583803b85a1a724f04", func := "throng/thronglaw15.CacheHolds", spec := "cacheHolds", inPlace := ["slices.overlaps[int]", "sync/atomic.AddInt64", "sync/atomic.LoadInt64"], apart := false, narrowed := true }
def CacheHoldsUptoSaid : Prop := cacheHoldsUptoRow.holds Try.pinned (OpenSpec.upto cacheHoldsSpec)

/-- 'thronglaw15.CacheExact', WHERE WHAT IT READS IS OF BULK AT MOST 1048576: true; the input reads as it did. -/
def cacheExactUptoRow : OpenClaim := { program := "ytacpdjccbadomaa", sum := "db433def5a9e8ad154bd980ff89e3c17d93bbbc178abc2583803b85a1a724f04", func := "throng/thronglaw15.CacheExact", spec := "cacheExact", inPlace := ["slices.overlaps[int]", "sync/atomic.AddInt64", "sync/atomic.LoadInt64"], apart := false, narrowed := true }
def CacheExactUptoSaid : Prop := cacheExactUptoRow.holds Try.pinned (OpenSpec.upto cacheExactSpec)

/-- 'thronglaw15.CacheOrder', WHERE WHAT IT READS IS OF BULK AT MOST 1048576: true; the input reads as it did. -/
def cacheOrderUptoRow : OpenClaim := { program := "ytacpdjccbadomaa", sum := "db433def5a9e8ad154bd980ff89e3c17d93bbbc178abc2583803b85a1a724f04", func := "throng/thronglaw15.CacheOrder", spec := "cacheOrder", inPlace := ["slices.overlaps[int]", "sync/atomic.AddInt64", "sync/atomic.LoadInt64"], apart := false, narrowed := true }
def CacheOrderUptoSaid : Prop := cacheOrderUptoRow.holds Try.pinned (OpenSpec.upto cacheOrderSpec)

end Rows
end Go.Proofs.Ytacpdjccbadomaa
