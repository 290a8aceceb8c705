/-
  The page's tiles beside one.
-/
import Derived.Test.YtddicdmleeaihaaRows
import Derived.Test.YtddicdmleeaihaaSC
set_option linter.unusedVariables false
set_option linter.unusedSimpArgs false
set_option maxRecDepth 20000
set_option maxHeartbeats 4000000
namespace Go.Proofs.Ytddicdmleeaihaa
open Go.Vg
open Enc (R)
open Sp
def bs1 (W H t : Int) : List Int := if 0 < t / W then [t - W] else []
def bs2 (W H t : Int) : List Int := bs1 W H t ++ if t % W < W - 1 then [t + 1] else []
def bs3 (W H t : Int) : List Int := bs2 W H t ++ if t / W < H - 1 then [t + W] else []
def bs4 (W H t : Int) : List Int := bs3 W H t ++ if 0 < t % W then [t - 1] else []
theorem len_bs1 (W H t : Int) : (bs1 W H t).length ≤ 1 := by unfold bs1; split <;> simp
theorem len_bs2 (W H t : Int) : (bs2 W H t).length ≤ 2 := by have := len_bs1 W H t; unfold bs2; rw [List.length_append]; split <;> simp <;> omega
theorem len_bs3 (W H t : Int) : (bs3 W H t).length ≤ 3 := by have := len_bs2 W H t; unfold bs3; rw [List.length_append]; split <;> simp <;> omega
end Go.Proofs.Ytddicdmleeaihaa
