/-
  Ways and routes as structures.
-/
import Derived.Test.YthdbofgcckjopaaGreatRows
import Derived.Test.YthdbofgcckjopaaGreatRO
set_option linter.unusedVariables false
set_option linter.unusedSimpArgs false
set_option maxRecDepth 20000
set_option maxHeartbeats 4000000
namespace Go.Proofs.YthdbofgcckjopaaGreat
open Go.Vg
open Enc (R)
structure PWay where
 cost:Int
 count:Int
 no:Bool
 deriving Inhabited
instance:Enc PWay where
 sz:=3
 R h x cs:=cs = [.int .i64 x.cost,.int .i64 x.count,.bool x.no]
 len:=fun e=>by rw [e]; rfl
 one:=fun e u hu=>by
  rw [e] at hu; simp only [List.mem_cons,List.not_mem_nil,or_false] at hu
  rcases hu with rfl | rfl | rfl
  ·rfl
  ·rfl
  ·rfl
 mono:=fun hl e=>e
end Go.Proofs.YthdbofgcckjopaaGreat
