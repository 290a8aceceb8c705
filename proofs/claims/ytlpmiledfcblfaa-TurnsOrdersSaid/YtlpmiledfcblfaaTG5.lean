/-
  TurnsOrders as a pure function.
-/
import Derived.Test.YtlpmiledfcblfaaRows
import Derived.Test.YtlpmiledfcblfaaTG
set_option linter.unusedVariables false
set_option linter.unusedSimpArgs false
set_option maxRecDepth 20000
set_option maxHeartbeats 4000000
namespace Go.Proofs.Ytlpmiledfcblfaa
open Go.Vg
open Enc (R)
def thronglaw27_TurnsOrders (a0_p : Ask27) : Option Bool :=
  Option.bind (thronglaw27_heavy a0_p) fun x2 =>
  if x2 = true then
  some true
  else
  Option.bind (turns_Merge a0_p.more) fun x4 =>
  if I64 ((a0_p.more.length : Int) - 1) then
  Option.bind (α := Int × List Inp) (loop (σ := List Inp × Int × Int) (β := Int × List Inp) (fun (l50, v52, v53) =>
  if 0 ≤ v53 then
  if 0 ≤ v53 ∧ v53 < (a0_p.more.length : Int) then
  if l50.length + 1 < 1099511627776 then
  if 0 ≤ v53 ∧ v53 < (a0_p.more.length : Int) then
  if I64 (v52 + (((gi a0_p.more v53).commands).length : Int)) then
  if I64 (v53 - 1) then
  some (St.next ((l50 ++ ([(gi a0_p.more v53)] : List Inp)), (v52 + (((gi a0_p.more v53).commands).length : Int)), (v53 - 1)))
  else none
  else none
  else none
  else none
  else none
  else
  some (St.done (v52, l50))) ([], 0, ((a0_p.more.length : Int) - 1))) fun (v8, v9) =>
  Option.bind (turns_Merge v9) fun x11 =>
  Option.bind (thronglaw27_num x4.2) fun x13 =>
  Option.bind (thronglaw27_num x11.2) fun x14 =>
  Option.bind (if ¬ x13 = x14 then
  some true
  else
  Option.bind (throngref0_EqCommands x4.1 x11.1) fun x49 =>
  some (!x49)) fun b17 =>
  if b17 = true then
  some false
  else
  Option.bind (thronglaw27_num x4.2) fun x19 =>
  if ¬ x19 = 0 then
  Option.bind (thronglaw27_wakes) fun x21 =>
  some x21
  else
  Option.bind (α := Ex (Unit) (Bool)) (loop (σ := Int) (β := Ex (Unit) (Bool)) (fun v28 =>
  if v28 < (x4.1.length : Int) then
  if I64 (v28 - 1) then
  if 0 ≤ (v28 - 1) ∧ (v28 - 1) < (x4.1.length : Int) then
  if 0 ≤ v28 ∧ v28 < (x4.1.length : Int) then
  if ¬ ((gi x4.1 v28).player < (gi x4.1 (v28 - 1)).player) → (I64 (v28 - 1)) then
  if ¬ ((gi x4.1 v28).player < (gi x4.1 (v28 - 1)).player) → (0 ≤ (v28 - 1) ∧ (v28 - 1) < (x4.1.length : Int)) then
  if ¬ ((gi x4.1 v28).player < (gi x4.1 (v28 - 1)).player) → (0 ≤ v28 ∧ v28 < (x4.1.length : Int)) then
  if ¬ ((gi x4.1 v28).player < (gi x4.1 (v28 - 1)).player) → (((gi x4.1 (v28 - 1)).player = (gi x4.1 v28).player) → (I64 (v28 - 1))) then
  if ¬ ((gi x4.1 v28).player < (gi x4.1 (v28 - 1)).player) → (((gi x4.1 (v28 - 1)).player = (gi x4.1 v28).player) → (0 ≤ (v28 - 1) ∧ (v28 - 1) < (x4.1.length : Int))) then
  if ¬ ((gi x4.1 v28).player < (gi x4.1 (v28 - 1)).player) → (((gi x4.1 (v28 - 1)).player = (gi x4.1 v28).player) → (0 ≤ v28 ∧ v28 < (x4.1.length : Int))) then
  if ((gi x4.1 v28).player < (gi x4.1 (v28 - 1)).player) ∨ (((gi x4.1 (v28 - 1)).player = (gi x4.1 v28).player) ∧ ((gi x4.1 v28).seq ≤ (gi x4.1 (v28 - 1)).seq)) then
  some (St.done (Ex.up false))
  else
  if I64 (v28 + 1) then
  some (St.next (v28 + 1))
  else none
  else none
  else none
  else none
  else none
  else none
  else none
  else none
  else none
  else none
  else
  some (St.done (Ex.go ()))) 1) fun x => x.then fun _ =>
  Option.bind (if (x4.1.length : Int) = v8 then
  Option.bind (thronglaw27_wakes) fun x27 =>
  some x27
  else
  some false) fun b25 =>
  some b25
  else none
end Go.Proofs.Ytlpmiledfcblfaa
