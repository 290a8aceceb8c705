/-
  What the statements of the fields call, as pure functions.
-/
import Derived.Test.YthdbofgcckjopaaGreatRows
import Derived.Test.YthdbofgcckjopaaGreatLD
set_option linter.unusedVariables false
set_option linter.unusedSimpArgs false
set_option maxRecDepth 20000
set_option maxHeartbeats 4000000
namespace Go.Proofs.YthdbofgcckjopaaGreat
open Go.Vg
open Enc (R)
def thronglaw18_num (a0_e : Int) : Option Int :=
  some a0_e
def thronglaw18_wakes : Option Bool :=
  Option.bind (fields_New 2) fun (o2, o3) =>
  Option.bind (thronglaw18_num o3) fun x5 =>
  if (¬ x5 = 0) ∨ (o2.isNone = true) then
  some false
  else
  Option.bind o2 fun z9 =>
  if 0 ≤ (2 : Int) ∧ (2 : Int) ≤ 281474976710656 then
  Option.bind (fields_Dirs z9 (⟨2, 1, (List.replicate (2 : Int).toNat (0 : UInt8))⟩ : Grd) [] 0 0 1) fun x13 =>
  Option.bind (fields_Dirs x13.2.2 (⟨2, 1, (List.replicate (2 : Int).toNat (0 : UInt8))⟩ : Grd) [] 0 0 1) fun x15 =>
  Option.bind (thronglaw18_num x13.2.1) fun x17 =>
  Option.bind (if x17 = 0 then
  Option.bind (thronglaw18_num x15.2.1) fun x38 =>
  some (decide (x38 = 0))
  else
  some false) fun b20 =>
  Option.bind (if b20 = true then
  Option.bind (throngref0_EqNumbers x13.1 [1, (-1)]) fun x36 =>
  some x36
  else
  some false) fun b23 =>
  Option.bind (if b23 = true then
  Option.bind (throngref0_EqNumbers x13.1 x15.1) fun x33 =>
  some x33
  else
  some false) fun b26 =>
  Option.bind (if b26 = true then
  Option.bind (fields_Made x15.2.2) fun x31 =>
  some (decide (x31 = 1))
  else
  some false) fun b29 =>
  some b29
  else none
def thronglaw18_heavy (a0_p : Scr18) : Option Bool :=
  Option.bind (α := Ex (Unit) (Bool)) (loop (σ := Int) (β := Ex (Unit) (Bool)) (fun v3 =>
  if v3 < (a0_p.l.length : Int) then
  Option.bind (if 6 ≤ v3 then
  some true
  else
  if 0 ≤ v3 ∧ v3 < (a0_p.l.length : Int) then
  Option.bind (thronglaw13_Heavy (gi a0_p.l v3)) fun x27 =>
  some x27
  else none) fun b8 =>
  if b8 = true then
  some (St.done (Ex.up true))
  else
  if I64 (v3 + 1) then
  some (St.next (v3 + 1))
  else none
  else
  some (St.done (Ex.go ()))) 0) fun x => x.then fun _ =>
  some (decide (60 < (a0_p.order.length : Int)))
end Go.Proofs.YthdbofgcckjopaaGreat
