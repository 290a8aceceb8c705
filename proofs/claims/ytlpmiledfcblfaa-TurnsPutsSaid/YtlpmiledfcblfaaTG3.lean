/-
  TurnsPuts as a pure function.
-/
import Derived.Test.YtlpmiledfcblfaaRows
import Derived.Test.YtlpmiledfcblfaaTG
set_option linter.unusedVariables false
set_option linter.unusedSimpArgs false
set_option maxRecDepth 20000
set_option maxHeartbeats 4000000
namespace Go.Proofs.Ytlpmiledfcblfaa
open Go.Vg
open Enc (R)
def thronglaw27_TurnsPuts (a0_p : Ask27) : Option Bool :=
  Option.bind (thronglaw27_heavy a0_p) fun x2 =>
  if x2 = true then
  some true
  else
  Option.bind (throngref0_CopyInputs a0_p.l) fun x4 =>
  Option.bind (α := Ex (Unit) (Bool)) (loop (σ := Int × List Inp) (β := Ex (Unit) (Bool)) (fun (v8, l9) =>
  if (v8 < (a0_p.more.length : Int)) ∧ (v8 < 10) then
  Option.bind (throngref27_List l9) fun x15 =>
  Option.bind (if x15 = true then
  if 0 ≤ v8 ∧ v8 < (a0_p.more.length : Int) then
  Option.bind (throngref27_May (gi a0_p.more v8)) fun x80 =>
  some x80
  else none
  else
  some false) fun b18 =>
  Option.bind (α := Int × List Inp) (if b18 = true then
  if 0 ≤ v8 ∧ v8 < (a0_p.more.length : Int) then
  Option.bind (throngref27_Put l9 (gi a0_p.more v8)) fun x68 =>
  some (x68.2, x68.1)
  else none
  else
  some (1, [])) fun (v20, v21) =>
  Option.bind (throngref0_CopyInputs l9) fun x23 =>
  if 0 ≤ v8 ∧ v8 < (a0_p.more.length : Int) then
  Option.bind (throngref0_CopyInput (gi a0_p.more v8)) fun x34 =>
  Option.bind (turns_Put x23 x34) fun x36 =>
  Option.bind (thronglaw27_num x36.2) fun x38 =>
  Option.bind (if ¬ x38 = v20 then
  some true
  else
  Option.bind (throngref0_EqInputs x36.1 v21) fun x57 =>
  some (!x57)) fun b41 =>
  Option.bind (if b41 = true then
  some true
  else
  Option.bind (throngref0_EqInputs x23 l9) fun x55 =>
  some (!x55)) fun b44 =>
  if b44 = true then
  some (St.done (Ex.up false))
  else
  Option.bind (thronglaw0_Inputs x36.1) fun x46 =>
  Option.bind (throngref0_EqInputs x23 l9) fun x47 =>
  if (!x47) = true then
  some (St.done (Ex.up false))
  else
  if v20 = 0 then
  Option.bind (throngref0_CopyInputs v21) fun x50 =>
  if I64 (v8 + 1) then
  some (St.next ((v8 + 1), x50))
  else none
  else
  if I64 (v8 + 1) then
  some (St.next ((v8 + 1), l9))
  else none
  else none
  else
  some (St.done (Ex.go ()))) (0, x4)) fun x => x.then fun _ =>
  Option.bind (thronglaw27_wakes) fun x7 =>
  some x7
end Go.Proofs.Ytlpmiledfcblfaa
