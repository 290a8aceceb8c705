/-
  FieldTurned as a pure function.
-/
import Derived.Test.YtiipgdmcgmbbkaaRows
import Derived.Test.YtiipgdmcgmbbkaaFG
set_option linter.unusedVariables false
set_option linter.unusedSimpArgs false
set_option maxRecDepth 20000
set_option maxHeartbeats 4000000
namespace Go.Proofs.Ytiipgdmcgmbbkaa
open Go.Vg
open Enc (R)
def thronglaw13_FieldTurned (a0_p : Ask13) : Option Bool :=
  Option.bind (thronglaw13_Heavy a0_p) fun x2 =>
  Option.bind (if x2 = true then
  some true
  else
  Option.bind (thronglaw13_form a0_p) fun x348 =>
  some (decide (¬ x348 = 0))) fun b5 =>
  if b5 = true then
  some true
  else
  Option.bind (α := Ex (List (List Int) × List Int) (Bool)) (loop (σ := List (List Int) × List Int × Int) (β := Ex (List (List Int) × List Int) (Bool)) (fun (l110, l112, v114) =>
  if (v114 < (a0_p.ts.length : Int)) ∧ (v114 < 5) then
  if 0 ≤ v114 ∧ v114 < (a0_p.ts.length : Int) then
  Option.bind (throngref5_Tile a0_p.g (gi a0_p.ts v114)) fun x122 =>
  if (!x122) = true then
  if I64 (v114 + 1) then
  some (St.next (l110, l112, (v114 + 1)))
  else none
  else
  if 0 ≤ v114 ∧ v114 < (a0_p.ts.length : Int) then
  Option.bind (field_Make a0_p.g a0_p.l a0_p.cls a0_p.size (gi a0_p.ts v114)) fun x126 =>
  Option.bind (thronglaw13_num x126.2) fun x128 =>
  if (¬ x128 = 0) ∨ (¬ (x126.1.length : Int) = (a0_p.g.tiles.length : Int)) then
  some (St.done (Ex.up false))
  else
  if 0 ≤ v114 ∧ v114 < (a0_p.ts.length : Int) then
  if l110.length + 1 < 1099511627776 then
  if l112.length < 1099511627776 then
  if I64 (v114 + 1) then
  some (St.next ((l110 ++ ([x126.1] : List (List Int))), (l112 ++ [(gi a0_p.ts v114)]), (v114 + 1)))
  else none
  else none
  else none
  else none
  else none
  else none
  else
  some (St.done (Ex.go (l110, l112)))) ([], [], 0)) fun x => x.then fun (v8, v10) =>
  Option.bind (α := Ex (Unit) (Bool)) (loop (σ := Int) (β := Ex (Unit) (Bool)) (fun v14 =>
  if v14 < (v10.length : Int) then
  if 0 ≤ v14 ∧ v14 < (v8.length : Int) then
  if 0 ≤ v14 ∧ v14 < (v10.length : Int) then
  if 0 ≤ (gi v10 v14) ∧ (gi v10 v14) < ((gi v8 v14).length : Int) then
  if 0 < (gi (gi v8 v14) (gi v10 v14)) then
  some (St.done (Ex.up false))
  else
  Option.bind (α := Ex (Unit) (St (Int) (Ex (Unit) (Bool)))) (loop (σ := Int) (β := Ex (Unit) (St (Int) (Ex (Unit) (Bool)))) (fun v37 =>
  if v37 < (v10.length : Int) then
  if 0 ≤ v14 ∧ v14 < (v8.length : Int) then
  if 0 ≤ v37 ∧ v37 < (v10.length : Int) then
  if 0 ≤ (gi v10 v37) ∧ (gi v10 v37) < ((gi v8 v14).length : Int) then
  if 0 ≤ v37 ∧ v37 < (v8.length : Int) then
  if 0 ≤ v14 ∧ v14 < (v10.length : Int) then
  if 0 ≤ (gi v10 v14) ∧ (gi v10 v14) < ((gi v8 v37).length : Int) then
  if ¬ (gi (gi v8 v14) (gi v10 v37)) = (gi (gi v8 v37) (gi v10 v14)) then
  some (St.done (Ex.up (St.done (Ex.up false))))
  else
  Option.bind (α := Ex (Unit) (St (Int) (Ex (Unit) (St (Int) (Ex (Unit) (Bool)))))) (loop (σ := Int) (β := Ex (Unit) (St (Int) (Ex (Unit) (St (Int) (Ex (Unit) (Bool)))))) (fun v65 =>
  if v65 < (v10.length : Int) then
  if 0 ≤ v14 ∧ v14 < (v8.length : Int) then
  if 0 ≤ v37 ∧ v37 < (v10.length : Int) then
  if 0 ≤ (gi v10 v37) ∧ (gi v10 v37) < ((gi v8 v14).length : Int) then
  if 0 ≤ v14 ∧ v14 < (v8.length : Int) then
  if 0 ≤ v65 ∧ v65 < (v10.length : Int) then
  if 0 ≤ (gi v10 v65) ∧ (gi v10 v65) < ((gi v8 v14).length : Int) then
  if 0 ≤ v65 ∧ v65 < (v8.length : Int) then
  if 0 ≤ v37 ∧ v37 < (v10.length : Int) then
  if 0 ≤ (gi v10 v37) ∧ (gi v10 v37) < ((gi v8 v65).length : Int) then
  if ((0 ≤ (gi (gi v8 v14) (gi v10 v65))) ∧ (0 ≤ (gi (gi v8 v65) (gi v10 v37)))) → (¬ ((gi (gi v8 v14) (gi v10 v37)) < 0) → (I64 ((gi (gi v8 v14) (gi v10 v65)) + (gi (gi v8 v65) (gi v10 v37))))) then
  if ((0 ≤ (gi (gi v8 v14) (gi v10 v65))) ∧ (0 ≤ (gi (gi v8 v65) (gi v10 v37)))) ∧ (((gi (gi v8 v14) (gi v10 v37)) < 0) ∨ (((gi (gi v8 v14) (gi v10 v65)) + (gi (gi v8 v65) (gi v10 v37))) < (gi (gi v8 v14) (gi v10 v37)))) then
  some (St.done (Ex.up (St.done (Ex.up (St.done (Ex.up false))))))
  else
  if I64 (v65 + 1) then
  some (St.next (v65 + 1))
  else none
  else none
  else none
  else none
  else none
  else none
  else none
  else none
  else none
  else none
  else none
  else
  some (St.done (Ex.go ()))) 0) fun x => x.then fun _ =>
  if I64 (v37 + 1) then
  some (St.next (v37 + 1))
  else none
  else none
  else none
  else none
  else none
  else none
  else none
  else
  some (St.done (Ex.go ()))) 0) fun x => x.then fun _ =>
  if I64 (v14 + 1) then
  some (St.next (v14 + 1))
  else none
  else none
  else none
  else none
  else
  some (St.done (Ex.go ()))) 0) fun x => x.then fun _ =>
  Option.bind (thronglaw13_wakes) fun x13 =>
  some x13
end Go.Proofs.Ytiipgdmcgmbbkaa
