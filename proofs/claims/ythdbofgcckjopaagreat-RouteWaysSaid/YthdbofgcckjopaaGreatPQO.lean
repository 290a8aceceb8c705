/-
  Portals as a structure.
-/
import Derived.Test.YthdbofgcckjopaaGreatRows
import Derived.Test.YthdbofgcckjopaaGreatW3
import Derived.Test.YthdbofgcckjopaaGreatBO
set_option linter.unusedVariables false
set_option linter.unusedSimpArgs false
set_option maxRecDepth 20000
set_option maxHeartbeats 4000000
namespace Go.Proofs.YthdbofgcckjopaaGreat
open Go.Vg
open Enc (R)
structure Prt where
 a : Int
 b : Int
 width : Int
 deriving Inhabited, DecidableEq
instance : Enc Prt where
 sz := 3
 R h x cs := cs = [.int .i64 x.a, .int .i64 x.b, .int .i64 x.width]
 len := fun e => by rw [e]; rfl
 one := fun e u hu => by
  rw [e] at hu; simp only [List.mem_cons, List.not_mem_nil, or_false] at hu
  rcases hu with rfl | rfl | rfl
  ·rfl
  ·rfl
  ·rfl
 mono := fun hl e => e
instance : Flat Prt := ⟨fun h => h⟩
end Go.Proofs.YthdbofgcckjopaaGreat
