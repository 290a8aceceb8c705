/-
  FieldDirs as a pure function.
-/
import Derived.Test.YtgpjjcncdaelpaaRows
import Derived.Test.YtgpjjcncdaelpaaFG
set_option linter.unusedVariables false
set_option linter.unusedSimpArgs false
set_option maxRecDepth 20000
set_option maxHeartbeats 4000000
namespace Go.Proofs.Ytgpjjcncdaelpaa
open Go.Vg
open Enc (R)
def thronglaw13_FieldDirs (a0_p : Ask13) : Option Bool :=
  Option.bind (thronglaw13_Heavy a0_p) fun x2 =>
  if x2 = true then
  some true
  else
  Option.bind (α := Ex (Unit) (Bool)) (loop (σ := Int) (β := Ex (Unit) (Bool)) (fun v6 =>
  if (v6 < (a0_p.ts.length : Int)) ∧ (v6 < 6) then
  Option.bind (thronglaw13_form a0_p) fun x11 =>
  Option.bind (if x11 = 0 then
  if 0 ≤ v6 ∧ v6 < (a0_p.ts.length : Int) then
  Option.bind (throngref5_Tile a0_p.g (gi a0_p.ts v6)) fun x45 =>
  some (!x45)
  else none
  else
  some false) fun b14 =>
  Option.bind (α := Int) (if b14 = true then
  some 3
  else
  some x11) fun v16 =>
  Option.bind (α := List Int) (if v16 = 0 then
  if 0 ≤ v6 ∧ v6 < (a0_p.ts.length : Int) then
  Option.bind (throngref13_Dirs a0_p.g a0_p.l a0_p.cls a0_p.size (gi a0_p.ts v6)) fun x38 =>
  some x38
  else none
  else
  some []) fun v18 =>
  if 0 ≤ v6 ∧ v6 < (a0_p.ts.length : Int) then
  Option.bind (field_Dirs a0_p.g a0_p.l a0_p.cls a0_p.size (gi a0_p.ts v6)) fun x23 =>
  Option.bind (thronglaw13_num x23.2) fun x25 =>
  Option.bind (if ¬ x25 = v16 then
  some true
  else
  Option.bind (throngref0_EqNumbers x23.1 v18) fun x33 =>
  some (!x33)) fun b28 =>
  if b28 = true then
  some (St.done (Ex.up false))
  else
  Option.bind (thronglaw0_Numbers x23.1) fun x30 =>
  if I64 (v6 + 1) then
  some (St.next (v6 + 1))
  else none
  else none
  else
  some (St.done (Ex.go ()))) 0) fun x => x.then fun _ =>
  Option.bind (thronglaw13_wakes) fun x5 =>
  some x5
end Go.Proofs.Ytgpjjcncdaelpaa
