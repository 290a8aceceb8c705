/-
  PeerAlone, as a pure function, is true: whatever the delay, reckoned for each of the eight. For arguments that are Go's.
-/
import Derived.Test.YtlpmiledfcblfaaPG2
import Derived.Test.YtlpmiledfcblfaaVS
set_option linter.unusedVariables false
set_option linter.unusedSimpArgs false
namespace Go.Proofs.Ytlpmiledfcblfaa
open Go.Vg
theorem alone_fin : ∀ k : Fin 8, thronglaw28_PeerAlone ⟨0, (k.val : Int), []⟩ = some true := by decide +kernel
theorem alone_law {q : Wld28} : thronglaw28_PeerAlone q = some true := by
  have h0 : 0 ≤ q.delay % 18446744073709551616 := Int.emod_nonneg _ (by decide)
  have h1 : 0 ≤ q.delay % 18446744073709551616 % 8 := Int.emod_nonneg _ (by decide)
  have h2 : q.delay % 18446744073709551616 % 8 < 8 := Int.emod_lt_of_pos _ (by decide)
  have hf := alone_fin ⟨(q.delay % 18446744073709551616 % 8).toNat, by omega⟩
  dsimp only at hf
  have hk : (((q.delay % 18446744073709551616 % 8).toNat : Nat) : Int) % 18446744073709551616 % 8 = q.delay % 18446744073709551616 % 8 := by omega
  unfold thronglaw28_PeerAlone at hf ⊢
  dsimp only at hf
  rw [if_pos ⟨by omega, by decide⟩] at hf
  rw [if_pos ⟨h0, by decide⟩]
  rw [hk] at hf
  exact hf
end Go.Proofs.Ytlpmiledfcblfaa
