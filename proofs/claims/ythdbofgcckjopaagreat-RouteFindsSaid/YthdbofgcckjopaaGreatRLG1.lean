/-
  RouteFinds as a pure function.
-/
import Derived.Test.YthdbofgcckjopaaGreatRows
import Derived.Test.YthdbofgcckjopaaGreatRLG
set_option linter.unusedVariables false
set_option linter.unusedSimpArgs false
set_option maxRecDepth 20000
set_option maxHeartbeats 4000000
namespace Go.Proofs.YthdbofgcckjopaaGreat
open Go.Vg
open Enc (R)
def thronglaw14_RouteFinds (a0_p:Ask13):Option Bool :=
  Option.bind (thronglaw13_Heavy a0_p) fun x2 =>
  if x2 = true then
  some true
  else
  Option.bind (α:=Ex (Unit) (Bool)) (loop (σ:=Int) (β:=Ex (Unit) (Bool)) (fun v6 =>
  if I64 (v6 + 1) then
  if ((v6 + 1) < (a0_p.ts.length:Int))∧(v6 < 4) then
  if 0 ≤ v6∧v6 < (a0_p.ts.length:Int) then
  if I64 (v6 + 1) then
  if 0 ≤ (v6 + 1)∧(v6 + 1) < (a0_p.ts.length:Int) then
  Option.bind (throngref13_May a0_p.g a0_p.l a0_p.cls a0_p.size) fun x18 =>
  Option.bind (α:=Int × Int × List Int × List Int) (if x18 = true then
  Option.bind (throngref5_Tile a0_p.g (gi a0_p.ts v6)) fun x49 =>
  Option.bind (if x49 = true then
  Option.bind (throngref5_Tile a0_p.g (gi a0_p.ts (v6 + 1))) fun x60 =>
  some x60
  else
  some false) fun b52 =>
  if b52 = true then
  Option.bind (throngref13_Route a0_p.g a0_p.l a0_p.cls a0_p.size (gi a0_p.ts v6) (gi a0_p.ts (v6 + 1))) fun x54 =>
  if (!x54.2) = true then
  some (5,0,[],[])
  else
  some (0,x54.1.cost,x54.1.portals,x54.1.sectors)
  else
  some (3,0,[],[])
  else
  some (1,0,[],[])) fun (v20,v21,v22,v24) =>
  Option.bind (throngref0_CopyGround a0_p.g) fun x26 =>
  Option.bind (route_Find FUEL x26 a0_p.l a0_p.cls a0_p.size (gi a0_p.ts v6) (gi a0_p.ts (v6 + 1))) fun x29 =>
  Option.bind (thronglaw14_num x29.2) fun x33 =>
  Option.bind (if ¬ x33 = v20 then
  some true
  else
  Option.bind (throngref0_EqRoute x29.1 (⟨v21,v22,v24⟩:Rte)) fun x47 =>
  some (!x47)) fun b36 =>
  Option.bind (if b36 = true then
  some true
  else
  Option.bind (throngref0_EqGround x26 a0_p.g) fun x45 =>
  some (!x45)) fun b39 =>
  if b39 = true then
  some (St.done (Ex.up false))
  else
  Option.bind (thronglaw0_Numbers x29.1.portals) fun x41 =>
  Option.bind (thronglaw0_Numbers x29.1.sectors) fun x42 =>
  if I64 (v6 + 1) then
  some (St.next (v6 + 1))
  else none
  else none
  else none
  else none
  else
  some (St.done (Ex.go ()))
  else none) 0) fun x=>x.then fun _ =>
  Option.bind (thronglaw14_wakes) fun x5 =>
  some x5
end Go.Proofs.YthdbofgcckjopaaGreat
