/-
  TurnsMerges as a pure function.
-/
import Derived.Test.YtlpmiledfcblfaaRows
import Derived.Test.YtlpmiledfcblfaaTG
set_option linter.unusedVariables false
set_option linter.unusedSimpArgs false
set_option maxRecDepth 20000
set_option maxHeartbeats 4000000
namespace Go.Proofs.Ytlpmiledfcblfaa
open Go.Vg
open Enc (R)
def thronglaw27_TurnsMerges (a0_p : Ask27) : Option Bool :=
  Option.bind (thronglaw27_heavy a0_p) fun x2 =>
  if x2 = true then
  some true
  else
  Option.bind (α := Ex (Unit) (Bool)) (loop (σ := Int) (β := Ex (Unit) (Bool)) (fun v6 =>
  if (v6 ≤ (a0_p.more.length : Int)) ∧ (v6 < 8) then
  if 0 ≤ v6 ∧ v6 ≤ (a0_p.more.length : Int) then
  Option.bind (throngref0_CopyInputs (a0_p.more.take v6.toNat)) fun x12 =>
  Option.bind (turns_Merge x12) fun x14 =>
  if 0 ≤ v6 ∧ v6 ≤ (a0_p.more.length : Int) then
  Option.bind (throngref27_Merge (a0_p.more.take v6.toNat)) fun x17 =>
  Option.bind (thronglaw27_num x14.2) fun x19 =>
  Option.bind (if ¬ x17.2 = (decide (x19 = 0)) then
  some true
  else
  Option.bind (if (!x17.2) = true then
  Option.bind (thronglaw27_num x14.2) fun x45 =>
  some (decide (¬ x45 = 1))
  else
  some false) fun b43 =>
  some b43) fun b22 =>
  Option.bind (if b22 = true then
  some true
  else
  Option.bind (throngref0_EqCommands x14.1 x17.1) fun x39 =>
  some (!x39)) fun b25 =>
  Option.bind (if b25 = true then
  some true
  else
  if 0 ≤ v6 ∧ v6 ≤ (a0_p.more.length : Int) then
  Option.bind (throngref0_EqInputs x12 (a0_p.more.take v6.toNat)) fun x37 =>
  some (!x37)
  else none) fun b28 =>
  if b28 = true then
  some (St.done (Ex.up false))
  else
  Option.bind (thronglaw0_Commands x14.1) fun x30 =>
  if 0 ≤ v6 ∧ v6 ≤ (a0_p.more.length : Int) then
  Option.bind (throngref0_EqInputs x12 (a0_p.more.take v6.toNat)) fun x32 =>
  if (!x32) = true then
  some (St.done (Ex.up false))
  else
  if I64 (v6 + 1) then
  some (St.next (v6 + 1))
  else none
  else none
  else none
  else none
  else
  some (St.done (Ex.go ()))) 0) fun x => x.then fun _ =>
  Option.bind (thronglaw27_wakes) fun x5 =>
  some x5
end Go.Proofs.Ytlpmiledfcblfaa
