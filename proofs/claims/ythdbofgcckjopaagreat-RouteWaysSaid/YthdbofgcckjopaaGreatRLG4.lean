/-
  RouteWays as a pure function.
-/
import Derived.Test.YthdbofgcckjopaaGreatRows
import Derived.Test.YthdbofgcckjopaaGreatRLG
set_option linter.unusedVariables false
set_option linter.unusedSimpArgs false
set_option maxRecDepth 20000
set_option maxHeartbeats 4000000
namespace Go.Proofs.YthdbofgcckjopaaGreat
open Go.Vg
open Enc (R)
def thronglaw14_RouteWays (a0_p : Ask13) : Option Bool :=
  Option.bind (thronglaw13_Heavy a0_p) fun x2 =>
  Option.bind (if x2 = true then
  some true
  else
  Option.bind (throngref13_May a0_p.g a0_p.l a0_p.cls a0_p.size) fun x68 =>
  some (!x68)) fun b5 =>
  if b5 = true then
  some true
  else
  Option.bind (α := Ex (Unit) (Bool)) (loop (σ := Int) (β := Ex (Unit) (Bool)) (fun v9 =>
  if I64 (v9 + 1) then
  if ((v9 + 1) < (a0_p.ts.length : Int)) ∧ (v9 < 6) then
  if 0 ≤ v9 ∧ v9 < (a0_p.ts.length : Int) then
  if I64 (v9 + 1) then
  if 0 ≤ (v9 + 1) ∧ (v9 + 1) < (a0_p.ts.length : Int) then
  Option.bind (throngref5_Tile a0_p.g (gi a0_p.ts v9)) fun x20 =>
  Option.bind (if (!x20) = true then
  some true
  else
  Option.bind (throngref5_Tile a0_p.g (gi a0_p.ts (v9 + 1))) fun x66 =>
  some (!x66)) fun b23 =>
  if b23 = true then
  if I64 (v9 + 1) then
  some (St.next (v9 + 1))
  else none
  else
  Option.bind (field_Make a0_p.g a0_p.l a0_p.cls a0_p.size (gi a0_p.ts (v9 + 1))) fun x26 =>
  Option.bind (route_Find FUEL a0_p.g a0_p.l a0_p.cls a0_p.size (gi a0_p.ts v9) (gi a0_p.ts (v9 + 1))) fun x28 =>
  Option.bind (thronglaw14_num x26.2) fun x32 =>
  Option.bind (if (¬ x32 = 0) ∨ (¬ (x26.1.length : Int) = (a0_p.g.tiles.length : Int)) then
  some true
  else
  if 0 ≤ (gi a0_p.ts v9) ∧ (gi a0_p.ts v9) < (x26.1.length : Int) then
  Option.bind (thronglaw14_num x28.2) fun x64 =>
  some (decide (¬ (decide (0 ≤ (gi x26.1 (gi a0_p.ts v9)))) = (decide (x64 = 0))))
  else none) fun b37 =>
  Option.bind (if b37 = true then
  some true
  else
  Option.bind (thronglaw14_num x28.2) fun x54 =>
  Option.bind (if ¬ x54 = 0 then
  Option.bind (thronglaw14_num x28.2) fun x59 =>
  some (decide (¬ x59 = 5))
  else
  some false) fun b57 =>
  some b57) fun b40 =>
  if b40 = true then
  some (St.done (Ex.up false))
  else
  Option.bind (thronglaw14_num x28.2) fun x42 =>
  if (x42 = 0) → (0 ≤ (gi a0_p.ts v9) ∧ (gi a0_p.ts v9) < (x26.1.length : Int)) then
  if (x42 = 0) → (¬ (x28.1.cost < (gi x26.1 (gi a0_p.ts v9))) → (I64 ((x28.1.portals.length : Int) + 1))) then
  if (x42 = 0) ∧ ((x28.1.cost < (gi x26.1 (gi a0_p.ts v9))) ∨ (¬ (x28.1.sectors.length : Int) = ((x28.1.portals.length : Int) + 1))) then
  some (St.done (Ex.up false))
  else
  if I64 (v9 + 1) then
  some (St.next (v9 + 1))
  else none
  else none
  else none
  else none
  else none
  else none
  else
  some (St.done (Ex.go ()))
  else none) 0) fun x => x.then fun _ =>
  Option.bind (thronglaw14_wakes) fun x8 =>
  some x8
end Go.Proofs.YthdbofgcckjopaaGreat
