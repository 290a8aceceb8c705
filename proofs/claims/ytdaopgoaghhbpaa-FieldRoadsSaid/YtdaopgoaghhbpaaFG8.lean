/-
  FieldRoads as a pure function.
-/
import Derived.Test.YtdaopgoaghhbpaaRows
import Derived.Test.YtdaopgoaghhbpaaFG
set_option linter.unusedVariables false
set_option linter.unusedSimpArgs false
set_option maxRecDepth 20000
set_option maxHeartbeats 4000000
namespace Go.Proofs.Ytdaopgoaghhbpaa
open Go.Vg
open Enc (R)
def thronglaw13_FieldRoads (a0_p : Ask13) : Option Bool :=
  Option.bind (thronglaw13_Heavy a0_p) fun x2 =>
  Option.bind (if x2 = true then
  some true
  else
  Option.bind (thronglaw13_form a0_p) fun x72 =>
  some (decide (¬ x72 = 0))) fun b5 =>
  if b5 = true then
  some true
  else
  Option.bind (α := Ex (Unit) (Bool)) (loop (σ := Int) (β := Ex (Unit) (Bool)) (fun v14 =>
  if I64 (v14 + 1) then
  if ((v14 + 1) < (a0_p.ts.length : Int)) ∧ (v14 < 3) then
  if 0 ≤ v14 ∧ v14 < (a0_p.ts.length : Int) then
  if I64 (v14 + 1) then
  if 0 ≤ (v14 + 1) ∧ (v14 + 1) < (a0_p.ts.length : Int) then
  Option.bind (throngref5_Tile a0_p.g (gi a0_p.ts v14)) fun x25 =>
  Option.bind (if (!x25) = true then
  some true
  else
  Option.bind (throngref5_Tile a0_p.g (gi a0_p.ts (v14 + 1))) fun x70 =>
  some (!x70)) fun b28 =>
  if b28 = true then
  if I64 (v14 + 1) then
  some (St.next (v14 + 1))
  else none
  else
  Option.bind (throngref0_CopyGround a0_p.g) fun x31 =>
  if 0 ≤ (gi a0_p.ts (v14 + 1)) ∧ (gi a0_p.ts (v14 + 1)) < (x31.tiles.length : Int) then
  Option.bind (field_Make a0_p.g a0_p.l a0_p.cls a0_p.size (gi a0_p.ts v14)) fun x37 =>
  Option.bind (field_Make (⟨x31.w, x31.h, (si x31.tiles (gi a0_p.ts (v14 + 1)) (1 : UInt8))⟩ : Grd) a0_p.l a0_p.cls a0_p.size (gi a0_p.ts v14)) fun x39 =>
  Option.bind (thronglaw13_num x37.2) fun x41 =>
  Option.bind (if ¬ x41 = 0 then
  some true
  else
  Option.bind (thronglaw13_num x39.2) fun x68 =>
  some (decide (¬ x68 = 0))) fun b44 =>
  if (b44 = true) ∨ (¬ (x37.1.length : Int) = (x39.1.length : Int)) then
  some (St.done (Ex.up false))
  else
  Option.bind (α := Ex (Unit) (St (Int) (Ex (Unit) (Bool)))) (loop (σ := Int) (β := Ex (Unit) (St (Int) (Ex (Unit) (Bool)))) (fun v50 =>
  if v50 < (x37.1.length : Int) then
  if 0 ≤ v50 ∧ v50 < (x37.1.length : Int) then
  if (0 ≤ (gi x37.1 v50)) → (0 ≤ v50 ∧ v50 < (x39.1.length : Int)) then
  if (0 ≤ (gi x37.1 v50)) → (¬ ((gi x39.1 v50) < 0) → (0 ≤ v50 ∧ v50 < (x39.1.length : Int))) then
  if (0 ≤ (gi x37.1 v50)) → (¬ ((gi x39.1 v50) < 0) → (0 ≤ v50 ∧ v50 < (x37.1.length : Int))) then
  if (0 ≤ (gi x37.1 v50)) ∧ (((gi x39.1 v50) < 0) ∨ ((gi x37.1 v50) < (gi x39.1 v50))) then
  some (St.done (Ex.up (St.done (Ex.up false))))
  else
  if I64 (v50 + 1) then
  some (St.next (v50 + 1))
  else none
  else none
  else none
  else none
  else none
  else
  some (St.done (Ex.go ()))) 0) fun x => x.then fun _ =>
  if I64 (v14 + 1) then
  some (St.next (v14 + 1))
  else none
  else none
  else none
  else none
  else none
  else
  some (St.done (Ex.go ()))
  else none) 0) fun x => x.then fun _ =>
  Option.bind (throngref13_May a0_p.g a0_p.l a0_p.cls a0_p.size) fun x8 =>
  Option.bind (if x8 = true then
  Option.bind (thronglaw13_wakes) fun x13 =>
  some x13
  else
  some false) fun b11 =>
  some b11
end Go.Proofs.Ytdaopgoaghhbpaa
