/-
  TurnsLost as a pure function.
-/
import Derived.Test.YtlpmiledfcblfaaRows
import Derived.Test.YtlpmiledfcblfaaTG
set_option linter.unusedVariables false
set_option linter.unusedSimpArgs false
set_option maxRecDepth 20000
set_option maxHeartbeats 4000000
namespace Go.Proofs.Ytlpmiledfcblfaa
open Go.Vg
open Enc (R)
def thronglaw27_TurnsLost (a0_p : Ask27) : Option Bool :=
  Option.bind (thronglaw27_heavy a0_p) fun x2 =>
  if x2 = true then
  some true
  else
  Option.bind (α := Ex (Int × List Inp) (Bool)) (loop (σ := List Inp × Int × Int) (β := Ex (Int × List Inp) (Bool)) (fun (l55, v57, v58) =>
  if (v58 < (a0_p.more.length : Int)) ∧ (v58 < 20) then
  if 0 ≤ v58 ∧ v58 < (a0_p.more.length : Int) then
  Option.bind (turns_Put l55 (gi a0_p.more v58)) fun x72 =>
  Option.bind (thronglaw27_num x72.2) fun x74 =>
  if ¬ x74 = 0 then
  if I64 (v58 + 1) then
  some (St.next (l55, v57, (v58 + 1)))
  else none
  else
  if 0 ≤ v58 ∧ v58 < (a0_p.more.length : Int) then
  Option.bind (turns_Put x72.1 (gi a0_p.more v58)) fun x84 =>
  Option.bind (thronglaw27_num x84.2) fun x86 =>
  if ¬ (¬ x86 = 12) → (I64 ((l55.length : Int) + 1)) then
  if (¬ x86 = 12) ∨ (¬ (x72.1.length : Int) = ((l55.length : Int) + 1)) then
  some (St.done (Ex.up false))
  else
  if I64 (v57 + 1) then
  if I64 (v58 + 1) then
  some (St.next (x72.1, (v57 + 1), (v58 + 1)))
  else none
  else none
  else none
  else none
  else none
  else
  some (St.done (Ex.go (v57, l55)))) ([], 0, 0)) fun x => x.then fun (v5, v6) =>
  Option.bind (α := Ex (Int × List Inp) (Bool)) (loop (σ := Int × Int × List Inp) (β := Ex (Int × List Inp) (Bool)) (fun (v24, v25, l26) =>
  if (v25 < (a0_p.more.length : Int)) ∧ (v25 < 20) then
  if 0 ≤ v25 ∧ v25 < (a0_p.more.length : Int) then
  Option.bind (turns_Take l26 ((gi a0_p.more v25).turn)) fun x35 =>
  Option.bind (thronglaw27_num x35.2.2) fun x38 =>
  if ¬ (¬ x38 = 0) → (I64 ((x35.1.length : Int) + (x35.2.1.length : Int))) then
  if (¬ x38 = 0) ∨ (¬ ((x35.1.length : Int) + (x35.2.1.length : Int)) = (l26.length : Int)) then
  some (St.done (Ex.up false))
  else
  Option.bind (α := Ex (Unit) (St (Int × Int × List Inp) (Ex (Int × List Inp) (Bool)))) (loop (σ := Int) (β := Ex (Unit) (St (Int × Int × List Inp) (Ex (Int × List Inp) (Bool)))) (fun v46 =>
  if v46 < (x35.1.length : Int) then
  if 0 ≤ v46 ∧ v46 < (x35.1.length : Int) then
  if 0 ≤ v25 ∧ v25 < (a0_p.more.length : Int) then
  if ¬ (gi x35.1 v46).turn = (gi a0_p.more v25).turn then
  some (St.done (Ex.up (St.done (Ex.up false))))
  else
  if I64 (v46 + 1) then
  some (St.next (v46 + 1))
  else none
  else none
  else none
  else
  some (St.done (Ex.go ()))) 0) fun x => x.then fun _ =>
  if I64 (v24 - (x35.1.length : Int)) then
  if I64 (v25 + 1) then
  some (St.next ((v24 - (x35.1.length : Int)), (v25 + 1), x35.2.1))
  else none
  else none
  else none
  else none
  else
  some (St.done (Ex.go (v24, l26)))) (v5, 0, v6)) fun x => x.then fun (v9, v10) =>
  Option.bind (if (v9 = 0) ∧ ((v10.length : Int) = 0) then
  Option.bind (throngref0_EqInputs [] v10) fun x23 =>
  some x23
  else
  some false) fun b16 =>
  Option.bind (if b16 = true then
  Option.bind (thronglaw27_wakes) fun x21 =>
  some x21
  else
  some false) fun b19 =>
  some b19
end Go.Proofs.Ytlpmiledfcblfaa
