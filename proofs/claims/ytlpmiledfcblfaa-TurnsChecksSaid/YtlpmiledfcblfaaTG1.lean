/-
  TurnsChecks as a pure function.
-/
import Derived.Test.YtlpmiledfcblfaaRows
import Derived.Test.YtlpmiledfcblfaaTG
set_option linter.unusedVariables false
set_option linter.unusedSimpArgs false
set_option maxRecDepth 20000
set_option maxHeartbeats 4000000
namespace Go.Proofs.Ytlpmiledfcblfaa
open Go.Vg
open Enc (R)
def thronglaw27_TurnsChecks (a0_p : Ask27) : Option Bool :=
  Option.bind (thronglaw27_heavy a0_p) fun x2 =>
  if x2 = true then
  some true
  else
  Option.bind (α := Ex (Unit) (Bool)) (loop (σ := Int) (β := Ex (Unit) (Bool)) (fun v6 =>
  if (v6 < (a0_p.more.length : Int)) ∧ (v6 < 30) then
  if 0 ≤ v6 ∧ v6 < (a0_p.more.length : Int) then
  Option.bind (throngref0_CopyInput (gi a0_p.more v6)) fun x20 =>
  Option.bind (turns_Check x20) fun x23 =>
  Option.bind (thronglaw27_num x23) fun x24 =>
  if 0 ≤ v6 ∧ v6 < (a0_p.more.length : Int) then
  Option.bind (throngref27_May (gi a0_p.more v6)) fun x32 =>
  Option.bind (if (¬ (decide (x24 = 0)) = x32) ∨ ((¬ x24 = 0) ∧ (¬ x24 = 1)) then
  some true
  else
  if 0 ≤ v6 ∧ v6 < (a0_p.more.length : Int) then
  Option.bind (throngref0_EqInput x20 (gi a0_p.more v6)) fun x48 =>
  some (!x48)
  else none) fun b37 =>
  if b37 = true then
  some (St.done (Ex.up false))
  else
  if I64 (v6 + 1) then
  some (St.next (v6 + 1))
  else none
  else none
  else none
  else
  some (St.done (Ex.go ()))) 0) fun x => x.then fun _ =>
  Option.bind (thronglaw27_wakes) fun x5 =>
  some x5
end Go.Proofs.Ytlpmiledfcblfaa
