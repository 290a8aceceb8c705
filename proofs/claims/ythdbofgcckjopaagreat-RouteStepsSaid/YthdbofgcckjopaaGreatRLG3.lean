/-
  RouteSteps as a pure function.
-/
import Derived.Test.YthdbofgcckjopaaGreatRows
import Derived.Test.YthdbofgcckjopaaGreatRLG
set_option linter.unusedVariables false
set_option linter.unusedSimpArgs false
set_option maxRecDepth 20000
set_option maxHeartbeats 4000000
namespace Go.Proofs.YthdbofgcckjopaaGreat
open Go.Vg
open Enc (R)
def thronglaw14_RouteSteps (a0_p : Ask13) : Option Bool :=
  Option.bind (thronglaw13_Heavy a0_p) fun x2 =>
  Option.bind (if x2 = true then
  some true
  else
  Option.bind (throngref13_May a0_p.g a0_p.l a0_p.cls a0_p.size) fun x311 =>
  some (!x311)) fun b5 =>
  if b5 = true then
  some true
  else
  Option.bind (field_Good a0_p.g a0_p.l a0_p.cls a0_p.size) fun x7 =>
  Option.bind (thronglaw14_num x7.2) fun x9 =>
  if ¬ x9 = 0 then
  some false
  else
  Option.bind (portal_Find a0_p.g.w a0_p.g.h x7.1) fun x11 =>
  Option.bind (thronglaw14_num x11.2) fun x13 =>
  if ¬ x13 = 0 then
  some false
  else
  Option.bind (α := Ex (Unit) (Bool)) (loop (σ := Int) (β := Ex (Unit) (Bool)) (fun v17 =>
  if I64 (v17 + 1) then
  if ((v17 + 1) < (a0_p.ts.length : Int)) ∧ (v17 < 4) then
  Option.bind (α := Int × Int × List Int × List Int) (if 0 ≤ v17 ∧ v17 < (a0_p.ts.length : Int) then
  if I64 (v17 + 1) then
  if 0 ≤ (v17 + 1) ∧ (v17 + 1) < (a0_p.ts.length : Int) then
  Option.bind (route_Find FUEL a0_p.g a0_p.l a0_p.cls a0_p.size (gi a0_p.ts v17) (gi a0_p.ts (v17 + 1))) fun x104 =>
  some (x104.1.cost, x104.2, x104.1.portals, x104.1.sectors)
  else none
  else none
  else none) fun (v25, v26, v27, v29) =>
  Option.bind (thronglaw14_num v26) fun x31 =>
  if ¬ x31 = 0 then
  if I64 (v17 + 1) then
  some (St.next (v17 + 1))
  else none
  else
  if I64 ((v27.length : Int) + 1) then
  Option.bind (if ¬ (v29.length : Int) = ((v27.length : Int) + 1) then
  some true
  else
  if 0 ≤ (0 : Int) ∧ (0 : Int) < (v29.length : Int) then
  if 0 ≤ v17 ∧ v17 < (a0_p.ts.length : Int) then
  Option.bind (throngref10_Of a0_p.g.w (gi a0_p.ts v17)) fun x98 =>
  some (decide (¬ (gi v29 (0 : Int)) = x98))
  else none
  else none) fun b37 =>
  Option.bind (if b37 = true then
  some true
  else
  if 0 ≤ (v27.length : Int) ∧ (v27.length : Int) < (v29.length : Int) then
  if I64 (v17 + 1) then
  if 0 ≤ (v17 + 1) ∧ (v17 + 1) < (a0_p.ts.length : Int) then
  Option.bind (throngref10_Of a0_p.g.w (gi a0_p.ts (v17 + 1))) fun x90 =>
  some (decide (¬ (gi v29 (v27.length : Int)) = x90))
  else none
  else none
  else none) fun b40 =>
  if b40 = true then
  some (St.done (Ex.up false))
  else
  Option.bind (α := Ex (Unit) (St (Int) (Ex (Unit) (Bool)))) (loop (σ := Int) (β := Ex (Unit) (St (Int) (Ex (Unit) (Bool)))) (fun v44 =>
  if v44 < (v27.length : Int) then
  if 0 ≤ v44 ∧ v44 < (v27.length : Int) then
  Option.bind (if ((gi v27 v44) < 0) ∨ ((x11.1.length : Int) ≤ (gi v27 v44)) then
  some true
  else
  if 0 ≤ v44 ∧ v44 ≤ (v27.length : Int) then
  Option.bind (throngref0_In (v27.take v44.toNat) (gi v27 v44)) fun x81 =>
  some (decide (0 ≤ x81))
  else none) fun b54 =>
  if b54 = true then
  some (St.done (Ex.up (St.done (Ex.up false))))
  else
  if 0 ≤ (gi v27 v44) ∧ (gi v27 v44) < (x11.1.length : Int) then
  Option.bind (throngref10_Of a0_p.g.w ((gi x11.1 (gi v27 v44)).a)) fun x59 =>
  if 0 ≤ (gi v27 v44) ∧ (gi v27 v44) < (x11.1.length : Int) then
  Option.bind (throngref10_Of a0_p.g.w ((gi x11.1 (gi v27 v44)).b)) fun x61 =>
  if 0 ≤ v44 ∧ v44 < (v29.length : Int) then
  if (x59 = (gi v29 v44)) → (I64 (v44 + 1)) then
  if (x59 = (gi v29 v44)) → (0 ≤ (v44 + 1) ∧ (v44 + 1) < (v29.length : Int)) then
  if (¬ ((x59 = (gi v29 v44)) ∧ (x61 = (gi v29 (v44 + 1))))) → (0 ≤ v44 ∧ v44 < (v29.length : Int)) then
  if (¬ ((x59 = (gi v29 v44)) ∧ (x61 = (gi v29 (v44 + 1))))) → ((x61 = (gi v29 v44)) → (I64 (v44 + 1))) then
  if (¬ ((x59 = (gi v29 v44)) ∧ (x61 = (gi v29 (v44 + 1))))) → ((x61 = (gi v29 v44)) → (0 ≤ (v44 + 1) ∧ (v44 + 1) < (v29.length : Int))) then
  if (¬ ((x59 = (gi v29 v44)) ∧ (x61 = (gi v29 (v44 + 1))))) ∧ (¬ ((x61 = (gi v29 v44)) ∧ (x59 = (gi v29 (v44 + 1))))) then
  some (St.done (Ex.up (St.done (Ex.up false))))
  else
  if I64 (v44 + 1) then
  some (St.next (v44 + 1))
  else none
  else none
  else none
  else none
  else none
  else none
  else none
  else none
  else none
  else none
  else
  some (St.done (Ex.go ()))) 0) fun x => x.then fun _ =>
  if I64 (v17 + 1) then
  some (St.next (v17 + 1))
  else none
  else none
  else
  some (St.done (Ex.go ()))
  else none) 0) fun x => x.then fun _ =>
  Option.bind (thronglaw14_wakes) fun x16 =>
  some x16
end Go.Proofs.YthdbofgcckjopaaGreat
