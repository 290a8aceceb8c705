/-
  What the statements of the routes call, as pure functions.
-/
import Derived.Test.YthdbofgcckjopaaGreatRows
import Derived.Test.YthdbofgcckjopaaGreatW4
import Derived.Test.YthdbofgcckjopaaGreatRPH
set_option linter.unusedVariables false
set_option linter.unusedSimpArgs false
set_option maxRecDepth 20000
set_option maxHeartbeats 4000000
namespace Go.Proofs.YthdbofgcckjopaaGreat
open Go.Vg
open Enc (R)
def throngref0_In (a0_l : List Int) (a1_n : Int) : Option Int :=
  Option.bind (α := Ex (Unit) (Int)) (loop (σ := Int) (β := Ex (Unit) (Int)) (fun v2 =>
  if v2 < (a0_l.length : Int) then
  if 0 ≤ v2 ∧ v2 < (a0_l.length : Int) then
  if (gi a0_l v2) = a1_n then
  some (St.done (Ex.up v2))
  else
  if I64 (v2 + 1) then
  some (St.next (v2 + 1))
  else none
  else none
  else
  some (St.done (Ex.go ()))) 0) fun x => x.then fun _ =>
  some (-1)
def thronglaw14_num (a0_e : Int) : Option Int :=
  some a0_e
def thronglaw14_wakes : Option Bool :=
  if 0 ≤ (2 : Int) ∧ (2 : Int) ≤ 281474976710656 then
  Option.bind (route_Find FUEL (⟨2, 1, (List.replicate (2 : Int).toNat (0 : UInt8))⟩ : Grd) [] 0 0 0 1) fun x3 =>
  Option.bind (thronglaw14_num x3.2) fun x7 =>
  Option.bind (if ((x7 = 0) ∧ (x3.1.cost = 20)) ∧ ((x3.1.portals.length : Int) = 0) then
  Option.bind (throngref0_EqNumbers x3.1.sectors [0]) fun x17 =>
  some x17
  else
  some false) fun b14 =>
  some b14
  else none
end Go.Proofs.YthdbofgcckjopaaGreat
