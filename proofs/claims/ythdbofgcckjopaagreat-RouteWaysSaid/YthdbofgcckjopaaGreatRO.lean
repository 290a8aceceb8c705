/-
  Labels and mazes as structures.
-/
import Derived.Test.YthdbofgcckjopaaGreatRows
import Derived.Test.YthdbofgcckjopaaGreatPQO
import Derived.Test.YthdbofgcckjopaaGreatFO
set_option linter.unusedVariables false
set_option linter.unusedSimpArgs false
set_option maxRecDepth 20000
set_option maxHeartbeats 4000000
namespace Go.Proofs.YthdbofgcckjopaaGreat
open Go.Vg
open Enc (R)
structure Lbl where
 cost : Int
 l : List Int
 deriving Inhabited
structure Rte where
 cost : Int
 portals : List Int
 sectors : List Int
 deriving Inhabited
structure Mz where
 net : Net
 ps : List Prt
 deriving Inhabited
end Go.Proofs.YthdbofgcckjopaaGreat
