/-
  Walks of what the page says of routes.
-/
import Derived.Test.YthdbofgcckjopaaGreatRows
import Derived.Test.YthdbofgcckjopaaGreatW3
import Derived.Test.YthdbofgcckjopaaGreatRPG
import Derived.Test.YthdbofgcckjopaaGreatRH
set_option linter.unusedVariables false
set_option linter.unusedSimpArgs false
set_option maxRecDepth 20000
set_option maxHeartbeats 4000000
namespace Go.Proofs.YthdbofgcckjopaaGreat
open Go.Vg
open Enc (R)
theorem ent20 : Ent Tryz.prog 20 := ⟨_, _, Tryz.func20, by kernel_rfl, rfl⟩
theorem fd52_0 : fdOff Tryz.prog 52 0 = some 0 := by kernel_rfl
theorem fd52_1 : fdOff Tryz.prog 52 1 = some 1 := by kernel_rfl
theorem fd52_2 : fdOff Tryz.prog 52 2 = some 2 := by kernel_rfl
theorem st52 : stTy Tryz.prog 52 = some ([.int .i64 0, .slice none 0 0, .slice none 0 0], [(0, 1), (1, 1), (2, 1)]) := by kernel_rfl
theorem ty52 : tySz Tryz.prog 52 = some (3, true) := by kernel_rfl
theorem zr52 : zeroOf Tryz.prog 52 = some (.agg #[.int .i64 0, .slice none 0 0, .slice none 0 0]) := by kernel_rfl
end Go.Proofs.YthdbofgcckjopaaGreat
