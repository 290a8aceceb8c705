/-
  TurnsTakes as a pure function.
-/
import Derived.Test.YtlpmiledfcblfaaRows
import Derived.Test.YtlpmiledfcblfaaTG
set_option linter.unusedVariables false
set_option linter.unusedSimpArgs false
set_option maxRecDepth 20000
set_option maxHeartbeats 4000000
namespace Go.Proofs.Ytlpmiledfcblfaa
open Go.Vg
open Enc (R)
def thronglaw27_TurnsTakes (a0_p : Ask27) : Option Bool :=
  Option.bind (thronglaw27_heavy a0_p) fun x2 =>
  if x2 = true then
  some true
  else
  Option.bind (α := Ex (Unit) (Bool)) (loop (σ := Int) (β := Ex (Unit) (Bool)) (fun v6 =>
  if (v6 < (a0_p.ts.length : Int)) ∧ (v6 < 10) then
  Option.bind (throngref27_List a0_p.l) fun x11 =>
  Option.bind (α := Int × List Inp × List Inp) (if x11 = true then
  if 0 ≤ v6 ∧ v6 < (a0_p.ts.length : Int) then
  Option.bind (throngref27_Take a0_p.l (gi a0_p.ts v6)) fun x52 =>
  some (0, x52.1, x52.2)
  else none
  else
  some (1, [], [])) fun (v13, v14, v16) =>
  Option.bind (throngref0_CopyInputs a0_p.l) fun x18 =>
  if 0 ≤ v6 ∧ v6 < (a0_p.ts.length : Int) then
  Option.bind (turns_Take x18 (gi a0_p.ts v6)) fun x23 =>
  Option.bind (thronglaw27_num x23.2.2) fun x26 =>
  Option.bind (if ¬ x26 = v13 then
  some true
  else
  Option.bind (throngref0_EqInputs x23.1 v14) fun x47 =>
  some (!x47)) fun b29 =>
  Option.bind (if b29 = true then
  some true
  else
  Option.bind (throngref0_EqInputs x23.2.1 v16) fun x45 =>
  some (!x45)) fun b32 =>
  Option.bind (if b32 = true then
  some true
  else
  Option.bind (throngref0_EqInputs x18 a0_p.l) fun x43 =>
  some (!x43)) fun b35 =>
  if b35 = true then
  some (St.done (Ex.up false))
  else
  Option.bind (thronglaw0_Inputs x23.1) fun x37 =>
  Option.bind (thronglaw0_Inputs x23.2.1) fun x38 =>
  Option.bind (throngref0_EqInputs x18 a0_p.l) fun x39 =>
  if (!x39) = true then
  some (St.done (Ex.up false))
  else
  if I64 (v6 + 1) then
  some (St.next (v6 + 1))
  else none
  else none
  else
  some (St.done (Ex.go ()))) 0) fun x => x.then fun _ =>
  Option.bind (thronglaw27_wakes) fun x5 =>
  some x5
end Go.Proofs.Ytlpmiledfcblfaa
