/-
  TopSolid as a plain function: the cases of four widths. No condition.
-/
import Derived.Test.YtmngdgclldkcfaaGreatJ29
set_option linter.unusedVariables false
set_option linter.unusedSimpArgs false
set_option maxRecDepth 20000
set_option maxHeartbeats 4000000
namespace Go.Proofs.YtmngdgclldkcfaaGreat
open Go.Vg
theorem wakes_q:throngtop_wakes = some true:=by decide +kernel
def solB (a b k:Nat):Option Bool:=throngtop_TopSolid ⟨⟨0,0,[]⟩,a,k,b,0,0,0⟩
theorem sol0_0:∀ b < 1,solB 0 b 0 = some true:=by
 unfold solB throngtop_TopSolid
 rw [wakes_q]
 decide +kernel
theorem sol0_1:∀ b < 1,solB 0 b 1 = some true:=by
 unfold solB throngtop_TopSolid
 rw [wakes_q]
 decide +kernel
theorem sol0_2:∀ b < 1,solB 0 b 2 = some true:=by
 unfold solB throngtop_TopSolid
 rw [wakes_q]
 decide +kernel
theorem sol0:∀ k < 3,∀ b < 1,solB 0 b k = some true:=fun k hk b hb=>by
 obtain rfl | rfl | rfl:k = 0 ∨ k = 1 ∨ k = 2:=by omega
 ·exact sol0_0 b hb
 ·exact sol0_1 b hb
 ·exact sol0_2 b hb
theorem sol1_0:∀ b < 2,solB 1 b 0 = some true:=by
 unfold solB throngtop_TopSolid
 rw [wakes_q]
 decide +kernel
theorem sol1_1:∀ b < 2,solB 1 b 1 = some true:=by
 unfold solB throngtop_TopSolid
 rw [wakes_q]
 decide +kernel
theorem sol1_2:∀ b < 2,solB 1 b 2 = some true:=by
 unfold solB throngtop_TopSolid
 rw [wakes_q]
 decide +kernel
theorem sol1:∀ k < 3,∀ b < 2,solB 1 b k = some true:=fun k hk b hb=>by
 obtain rfl | rfl | rfl:k = 0 ∨ k = 1 ∨ k = 2:=by omega
 ·exact sol1_0 b hb
 ·exact sol1_1 b hb
 ·exact sol1_2 b hb
theorem sol2_0:∀ b < 3,solB 2 b 0 = some true:=by
 unfold solB throngtop_TopSolid
 rw [wakes_q]
 decide +kernel
theorem sol2_1:∀ b < 3,solB 2 b 1 = some true:=by
 unfold solB throngtop_TopSolid
 rw [wakes_q]
 decide +kernel
theorem sol2_2:∀ b < 3,solB 2 b 2 = some true:=by
 unfold solB throngtop_TopSolid
 rw [wakes_q]
 decide +kernel
theorem sol2:∀ k < 3,∀ b < 3,solB 2 b k = some true:=fun k hk b hb=>by
 obtain rfl | rfl | rfl:k = 0 ∨ k = 1 ∨ k = 2:=by omega
 ·exact sol2_0 b hb
 ·exact sol2_1 b hb
 ·exact sol2_2 b hb
theorem sol3_0:∀ b < 4,solB 3 b 0 = some true:=by
 unfold solB throngtop_TopSolid
 rw [wakes_q]
 decide +kernel
theorem sol3_1:∀ b < 4,solB 3 b 1 = some true:=by
 unfold solB throngtop_TopSolid
 rw [wakes_q]
 decide +kernel
theorem sol3_2:∀ b < 4,solB 3 b 2 = some true:=by
 unfold solB throngtop_TopSolid
 rw [wakes_q]
 decide +kernel
theorem sol3:∀ k < 3,∀ b < 4,solB 3 b k = some true:=fun k hk b hb=>by
 obtain rfl | rfl | rfl:k = 0 ∨ k = 1 ∨ k = 2:=by omega
 ·exact sol3_0 b hb
 ·exact sol3_1 b hb
 ·exact sol3_2 b hb
end Go.Proofs.YtmngdgclldkcfaaGreat
