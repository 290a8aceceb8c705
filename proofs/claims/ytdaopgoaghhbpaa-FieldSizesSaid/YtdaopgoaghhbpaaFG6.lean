/-
  FieldSizes as a pure function.
-/
import Derived.Test.YtdaopgoaghhbpaaRows
import Derived.Test.YtdaopgoaghhbpaaFG
set_option linter.unusedVariables false
set_option linter.unusedSimpArgs false
set_option maxRecDepth 20000
set_option maxHeartbeats 4000000
namespace Go.Proofs.Ytdaopgoaghhbpaa
open Go.Vg
open Enc (R)
def thronglaw13_FieldSizes (a0_p : Ask13) : Option Bool :=
  Option.bind (thronglaw13_Heavy a0_p) fun x2 =>
  Option.bind (if x2 = true then
  some true
  else
  Option.bind (thronglaw13_form a0_p) fun x66 =>
  some (decide (¬ x66 = 0))) fun b5 =>
  if (b5 = true) ∨ (a0_p.size = 0) then
  some true
  else
  Option.bind (α := Ex (Unit) (Bool)) (loop (σ := Int) (β := Ex (Unit) (Bool)) (fun v19 =>
  if (v19 < (a0_p.ts.length : Int)) ∧ (v19 < 3) then
  if 0 ≤ v19 ∧ v19 < (a0_p.ts.length : Int) then
  Option.bind (throngref5_Tile a0_p.g (gi a0_p.ts v19)) fun x27 =>
  if (!x27) = true then
  if I64 (v19 + 1) then
  some (St.next (v19 + 1))
  else none
  else
  if 0 ≤ v19 ∧ v19 < (a0_p.ts.length : Int) then
  Option.bind (field_Make a0_p.g a0_p.l a0_p.cls a0_p.size (gi a0_p.ts v19)) fun x31 =>
  if I64 (a0_p.size - 1) then
  if 0 ≤ v19 ∧ v19 < (a0_p.ts.length : Int) then
  Option.bind (field_Make a0_p.g a0_p.l a0_p.cls (a0_p.size - 1) (gi a0_p.ts v19)) fun x35 =>
  Option.bind (thronglaw13_num x31.2) fun x37 =>
  Option.bind (if ¬ x37 = 0 then
  some true
  else
  Option.bind (thronglaw13_num x35.2) fun x64 =>
  some (decide (¬ x64 = 0))) fun b40 =>
  if (b40 = true) ∨ (¬ (x31.1.length : Int) = (x35.1.length : Int)) then
  some (St.done (Ex.up false))
  else
  Option.bind (α := Ex (Unit) (St (Int) (Ex (Unit) (Bool)))) (loop (σ := Int) (β := Ex (Unit) (St (Int) (Ex (Unit) (Bool)))) (fun v46 =>
  if v46 < (x31.1.length : Int) then
  if 0 ≤ v46 ∧ v46 < (x31.1.length : Int) then
  if (0 ≤ (gi x31.1 v46)) → (0 ≤ v46 ∧ v46 < (x35.1.length : Int)) then
  if (0 ≤ (gi x31.1 v46)) → (¬ ((gi x35.1 v46) < 0) → (0 ≤ v46 ∧ v46 < (x35.1.length : Int))) then
  if (0 ≤ (gi x31.1 v46)) → (¬ ((gi x35.1 v46) < 0) → (0 ≤ v46 ∧ v46 < (x31.1.length : Int))) then
  if (0 ≤ (gi x31.1 v46)) ∧ (((gi x35.1 v46) < 0) ∨ ((gi x31.1 v46) < (gi x35.1 v46))) then
  some (St.done (Ex.up (St.done (Ex.up false))))
  else
  if I64 (v46 + 1) then
  some (St.next (v46 + 1))
  else none
  else none
  else none
  else none
  else none
  else
  some (St.done (Ex.go ()))) 0) fun x => x.then fun _ =>
  if I64 (v19 + 1) then
  some (St.next (v19 + 1))
  else none
  else none
  else none
  else none
  else none
  else
  some (St.done (Ex.go ()))) 0) fun x => x.then fun _ =>
  Option.bind (sector_Count 8 8) fun x10 =>
  Option.bind (thronglaw13_num x10.2) fun x11 =>
  Option.bind (if (x11 = 0) ∧ (x10.1 = 1) then
  Option.bind (thronglaw13_wakes) fun x18 =>
  some x18
  else
  some false) fun b16 =>
  some b16
end Go.Proofs.Ytdaopgoaghhbpaa
