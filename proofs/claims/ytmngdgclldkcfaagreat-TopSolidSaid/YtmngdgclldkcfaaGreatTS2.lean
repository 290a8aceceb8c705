/-
  TopSolid as a plain function: the cases of the last width. No condition.
-/
import Derived.Test.YtmngdgclldkcfaaGreatTS1
set_option linter.unusedVariables false
set_option linter.unusedSimpArgs false
set_option maxRecDepth 20000
set_option maxHeartbeats 4000000
namespace Go.Proofs.YtmngdgclldkcfaaGreat
open Go.Vg
theorem sol4_0:∀ b < 5,solB 4 b 0 = some true:=by
 unfold solB throngtop_TopSolid
 rw [wakes_q]
 decide +kernel
theorem sol4_1:∀ b < 5,solB 4 b 1 = some true:=by
 unfold solB throngtop_TopSolid
 rw [wakes_q]
 decide +kernel
theorem sol4_2:∀ b < 5,solB 4 b 2 = some true:=by
 unfold solB throngtop_TopSolid
 rw [wakes_q]
 decide +kernel
theorem sol4:∀ k < 3,∀ b < 5,solB 4 b k = some true:=fun k hk b hb=>by
 obtain rfl | rfl | rfl:k = 0 ∨ k = 1 ∨ k = 2:=by omega
 ·exact sol4_0 b hb
 ·exact sol4_1 b hb
 ·exact sol4_2 b hb
end Go.Proofs.YtmngdgclldkcfaaGreat
