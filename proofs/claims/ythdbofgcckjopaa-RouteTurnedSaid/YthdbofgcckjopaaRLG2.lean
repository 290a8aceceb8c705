/-
  RouteTurned as a pure function.
-/
import Derived.Test.YthdbofgcckjopaaRows
import Derived.Test.YthdbofgcckjopaaRLG
set_option linter.unusedVariables false
set_option linter.unusedSimpArgs false
set_option maxRecDepth 20000
set_option maxHeartbeats 4000000
namespace Go.Proofs.Ythdbofgcckjopaa
open Go.Vg
open Enc (R)
def thronglaw14_RouteTurned (a0_p : Ask13) : Option Bool :=
  Option.bind (thronglaw13_Heavy a0_p) fun x2 =>
  Option.bind (if x2 = true then
  some true
  else
  Option.bind (throngref13_May a0_p.g a0_p.l a0_p.cls a0_p.size) fun x68 =>
  some (!x68)) fun b5 =>
  if b5 = true then
  some true
  else
  Option.bind (α := Ex (Unit) (Bool)) (loop (σ := Int) (β := Ex (Unit) (Bool)) (fun v9 =>
  if I64 (v9 + 1) then
  if ((v9 + 1) < (a0_p.ts.length : Int)) ∧ (v9 < 4) then
  if 0 ≤ v9 ∧ v9 < (a0_p.ts.length : Int) then
  if I64 (v9 + 1) then
  if 0 ≤ (v9 + 1) ∧ (v9 + 1) < (a0_p.ts.length : Int) then
  Option.bind (throngref5_Tile a0_p.g (gi a0_p.ts v9)) fun x20 =>
  Option.bind (if (!x20) = true then
  some true
  else
  Option.bind (throngref5_Tile a0_p.g (gi a0_p.ts (v9 + 1))) fun x66 =>
  some (!x66)) fun b23 =>
  if b23 = true then
  if I64 (v9 + 1) then
  some (St.next (v9 + 1))
  else none
  else
  Option.bind (route_Find FUEL a0_p.g a0_p.l a0_p.cls a0_p.size (gi a0_p.ts v9) (gi a0_p.ts (v9 + 1))) fun x26 =>
  Option.bind (route_Find FUEL a0_p.g a0_p.l a0_p.cls a0_p.size (gi a0_p.ts (v9 + 1)) (gi a0_p.ts v9)) fun x30 =>
  Option.bind (route_Find FUEL a0_p.g a0_p.l a0_p.cls a0_p.size (gi a0_p.ts v9) (gi a0_p.ts v9)) fun x34 =>
  Option.bind (thronglaw14_num x26.2) fun x38 =>
  Option.bind (thronglaw14_num x30.2) fun x39 =>
  Option.bind (if ((¬ x38 = x39) ∨ (¬ x26.1.cost = x30.1.cost)) ∨ (¬ (x26.1.portals.length : Int) = (x30.1.portals.length : Int)) then
  some true
  else
  Option.bind (thronglaw14_num x34.2) fun x60 =>
  some (decide ((x60 = 0) ∧ ((¬ x34.1.cost = 0) ∨ (¬ (x34.1.portals.length : Int) = 0))))) fun b46 =>
  Option.bind (if b46 = true then
  some true
  else
  Option.bind (thronglaw14_num x26.2) fun x53 =>
  Option.bind (if x53 = 0 then
  Option.bind (thronglaw14_num x34.2) fun x58 =>
  some (decide (¬ x58 = 0))
  else
  some false) fun b56 =>
  some b56) fun b49 =>
  if b49 = true then
  some (St.done (Ex.up false))
  else
  if I64 (v9 + 1) then
  some (St.next (v9 + 1))
  else none
  else none
  else none
  else none
  else
  some (St.done (Ex.go ()))
  else none) 0) fun x => x.then fun _ =>
  Option.bind (thronglaw14_wakes) fun x8 =>
  some x8
end Go.Proofs.Ythdbofgcckjopaa
