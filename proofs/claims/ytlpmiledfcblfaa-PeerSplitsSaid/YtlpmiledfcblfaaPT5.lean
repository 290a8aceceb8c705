/-
  PeerSplits, as a pure function, is true: it is closed but for what it asks of a list's length. For arguments that are Go's.
-/
import Derived.Test.YtlpmiledfcblfaaPG5
set_option linter.unusedVariables false
set_option linter.unusedSimpArgs false
namespace Go.Proofs.Ytlpmiledfcblfaa
open Go.Vg
theorem splits_fin : thronglaw28_PeerSplits ⟨0, 0, []⟩ = some true := by decide +kernel
theorem splits_law {q : Wld28} : thronglaw28_PeerSplits q = some true := by
  have hf := splits_fin
  unfold thronglaw28_PeerSplits at hf ⊢
  rw [if_pos (c := 0 ≤ ((q.l.length : Nat) : Int)) (Int.natCast_nonneg _)]
  dsimp only at hf
  rw [if_pos (c := 0 ≤ ((([] : List Fate).length : Nat) : Int)) (Int.natCast_nonneg _)] at hf
  exact hf
end Go.Proofs.Ytlpmiledfcblfaa
