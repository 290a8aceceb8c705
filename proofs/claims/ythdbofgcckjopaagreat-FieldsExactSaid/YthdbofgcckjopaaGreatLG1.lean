/-
  FieldsExact as a pure function.
-/
import Derived.Test.YthdbofgcckjopaaGreatRows
import Derived.Test.YthdbofgcckjopaaGreatLI
set_option linter.unusedVariables false
set_option linter.unusedSimpArgs false
set_option maxRecDepth 20000
set_option maxHeartbeats 4000000
namespace Go.Proofs.YthdbofgcckjopaaGreat
open Go.Vg
open Enc (R)
def thronglaw18_FieldsExact (a0_p : Scr18) : Option Bool :=
  Option.bind (thronglaw18_heavy a0_p) fun x2 =>
  if x2 = true then
  some true
  else
  Option.bind (fields_New a0_p.room) fun (o5, o6) =>
  Option.bind (throngref15_Room a0_p.room) fun x8 =>
  Option.bind (thronglaw18_num o6) fun x9 =>
  Option.bind (if ¬ x8 = (decide (x9 = 0)) then
  some true
  else
  Option.bind (thronglaw18_num o6) fun x84 =>
  some (decide (¬ o5.isNone = (decide (¬ x84 = 0))))) fun b12 =>
  if b12 = true then
  some false
  else
  if (o5.isNone = true) ∨ ((a0_p.l.length : Int) = 0) then
  Option.bind (thronglaw18_wakes) fun x17 =>
  some x17
  else
  Option.bind o5 fun z18 =>
  Option.bind (α := Ex (Fld) (Bool)) (loop (σ := Int × Fld) (β := Ex (Fld) (Bool)) (fun (v22, v23) =>
  if (v22 < (a0_p.order.length : Int)) ∧ (v22 < 16) then
  if 0 ≤ v22 ∧ v22 < (a0_p.order.length : Int) then
  Option.bind (thronglaw0_Within (gi a0_p.order v22) (a0_p.l.length : Int)) fun x31 =>
  if 0 ≤ x31 ∧ x31 < (a0_p.l.length : Int) then
  Option.bind (α := Int) (if 0 < (((gi a0_p.l x31).ts).length : Int) then
  if 0 ≤ v22 ∧ v22 < (a0_p.order.length : Int) then
  Option.bind (thronglaw0_Within (IntKind.i64.wrap (Int.tdiv (gi a0_p.order v22) 7)) (((gi a0_p.l x31).ts).length : Int)) fun x79 =>
  if 0 ≤ x79 ∧ x79 < (((gi a0_p.l x31).ts).length : Int) then
  some (gi ((gi a0_p.l x31).ts) x79)
  else none
  else none
  else
  some 0) fun v49 =>
  Option.bind (throngref13_May ((gi a0_p.l x31).g) ((gi a0_p.l x31).l) ((gi a0_p.l x31).cls) ((gi a0_p.l x31).size)) fun x50 =>
  Option.bind (α := Int × List Int) (if x50 = true then
  Option.bind (throngref5_Tile ((gi a0_p.l x31).g) v49) fun x73 =>
  if x73 = true then
  Option.bind (throngref13_Dirs ((gi a0_p.l x31).g) ((gi a0_p.l x31).l) ((gi a0_p.l x31).cls) ((gi a0_p.l x31).size) v49) fun x75 =>
  some (0, x75)
  else
  some (3, [])
  else
  some (1, [])) fun (v52, v53) =>
  Option.bind (α := Fld) (if v22 = a0_p.forget then
  Option.bind (fields_Forget v23) fun x71 =>
  some x71
  else
  some v23) fun v56 =>
  Option.bind (throngref0_CopyGround ((gi a0_p.l x31).g)) fun x57 =>
  Option.bind (fields_Dirs v56 x57 ((gi a0_p.l x31).l) ((gi a0_p.l x31).cls) ((gi a0_p.l x31).size) v49) fun x59 =>
  Option.bind (thronglaw18_num x59.2.1) fun x61 =>
  Option.bind (if ¬ x61 = v52 then
  some true
  else
  Option.bind (throngref0_EqNumbers x59.1 v53) fun x69 =>
  some (!x69)) fun b64 =>
  if b64 = true then
  some (St.done (Ex.up false))
  else
  Option.bind (thronglaw0_Numbers x59.1) fun x66 =>
  if I64 (v22 + 1) then
  some (St.next ((v22 + 1), x59.2.2))
  else none
  else none
  else none
  else
  some (St.done (Ex.go v23))) (0, z18)) fun x => x.then fun v20 =>
  Option.bind (thronglaw18_wakes) fun x21 =>
  some x21
end Go.Proofs.YthdbofgcckjopaaGreat
