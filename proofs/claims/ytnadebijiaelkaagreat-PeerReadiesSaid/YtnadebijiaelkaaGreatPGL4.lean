/-
  PeerReadies as a pure function.
-/
import Derived.Test.YtnadebijiaelkaaGreatRows
import Derived.Test.YtnadebijiaelkaaGreatW5
set_option linter.unusedVariables false
set_option linter.unusedSimpArgs false
set_option maxRecDepth 20000
set_option maxHeartbeats 4000000
namespace Go.Proofs.YtnadebijiaelkaaGreat
open Go.Vg
open Enc (R)
def thronglaw28_PeerReadies (a0_p : Scr28) : Option Bool :=
  Option.bind (thronglaw28_only a0_p 6) fun x2 =>
  some x2
end Go.Proofs.YtnadebijiaelkaaGreat
