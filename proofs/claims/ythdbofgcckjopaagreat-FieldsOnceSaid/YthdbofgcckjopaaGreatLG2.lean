/-
  FieldsOnce as a pure function.
-/
import Derived.Test.YthdbofgcckjopaaGreatRows
import Derived.Test.YthdbofgcckjopaaGreatLI
set_option linter.unusedVariables false
set_option linter.unusedSimpArgs false
set_option maxRecDepth 20000
set_option maxHeartbeats 4000000
namespace Go.Proofs.YthdbofgcckjopaaGreat
open Go.Vg
open Enc (R)
def thronglaw18_FieldsOnce (a0_p : Scr18) : Option Bool :=
  Option.bind (thronglaw18_heavy a0_p) fun x2 =>
  if (x2 = true) ∨ ((a0_p.l.length : Int) = 0) then
  some true
  else
  Option.bind (α := Ex (Unit) (Bool)) (loop (σ := Int) (β := Ex (Unit) (Bool)) (fun v8 =>
  if v8 < (a0_p.l.length : Int) then
  if 0 ≤ v8 ∧ v8 < (a0_p.l.length : Int) then
  Option.bind (thronglaw0_Within a0_p.room 8) fun x27 =>
  if I64 (1 + x27) then
  Option.bind (fields_New (1 + x27)) fun (o30, o31) =>
  Option.bind (thronglaw18_num o31) fun x33 =>
  if (¬ x33 = 0) ∨ (o30.isNone = true) then
  some (St.done (Ex.up false))
  else
  Option.bind o30 fun z37 =>
  Option.bind (fields_Made z37) fun x38 =>
  if ¬ x38 = 0 then
  some (St.done (Ex.up false))
  else
  Option.bind (throngref13_May ((gi a0_p.l v8).g) ((gi a0_p.l v8).l) ((gi a0_p.l v8).cls) ((gi a0_p.l v8).size)) fun x40 =>
  Option.bind (if ((!x40) = true) ∨ ((((gi a0_p.l v8).ts).length : Int) = 0) then
  some true
  else
  if 0 ≤ (0 : Int) ∧ (0 : Int) < (((gi a0_p.l v8).ts).length : Int) then
  Option.bind (throngref5_Tile ((gi a0_p.l v8).g) (gi ((gi a0_p.l v8).ts) (0 : Int))) fun x95 =>
  some (!x95)
  else none) fun b45 =>
  if b45 = true then
  if I64 (v8 + 1) then
  some (St.next (v8 + 1))
  else none
  else
  if 0 ≤ (0 : Int) ∧ (0 : Int) < (((gi a0_p.l v8).ts).length : Int) then
  Option.bind (fields_Dirs z37 ((gi a0_p.l v8).g) ((gi a0_p.l v8).l) ((gi a0_p.l v8).cls) ((gi a0_p.l v8).size) (gi ((gi a0_p.l v8).ts) (0 : Int))) fun x51 =>
  Option.bind (fields_Made x51.2.2) fun x53 =>
  if 0 ≤ (0 : Int) ∧ (0 : Int) < (((gi a0_p.l v8).ts).length : Int) then
  Option.bind (fields_Dirs x51.2.2 ((gi a0_p.l v8).g) ((gi a0_p.l v8).l) ((gi a0_p.l v8).cls) ((gi a0_p.l v8).size) (gi ((gi a0_p.l v8).ts) (0 : Int))) fun x55 =>
  Option.bind (thronglaw18_num x51.2.1) fun x57 =>
  Option.bind (if ¬ x57 = 0 then
  some true
  else
  Option.bind (thronglaw18_num x55.2.1) fun x90 =>
  some (decide (¬ x90 = 0))) fun b60 =>
  Option.bind (if b60 = true then
  some true
  else
  Option.bind (fields_Made x55.2.2) fun x88 =>
  some (decide (¬ x88 = x53))) fun b63 =>
  Option.bind (if (b63 = true) ∨ (x53 < 1) then
  some true
  else
  Option.bind (throngref0_EqNumbers x51.1 x55.1) fun x86 =>
  some (!x86)) fun b68 =>
  if b68 = true then
  some (St.done (Ex.up false))
  else
  Option.bind (throngref0_CopyGround ((gi a0_p.l v8).g)) fun x70 =>
  Option.bind (thronglaw0_Within a0_p.forget (x70.tiles.length : Int)) fun x73 =>
  if 0 ≤ x73 ∧ x73 < (x70.tiles.length : Int) then
  if (((gi a0_p.l v8).l).length : Int) = 0 then
  if 0 ≤ (0 : Int) ∧ (0 : Int) < (((gi a0_p.l v8).ts).length : Int) then
  Option.bind (fields_Dirs x55.2.2 (⟨x70.w, x70.h, (si x70.tiles x73 (5 : UInt8))⟩ : Grd) [] ((gi a0_p.l v8).cls) ((gi a0_p.l v8).size) (gi ((gi a0_p.l v8).ts) (0 : Int))) fun x79 =>
  Option.bind (thronglaw18_num x79.2.1) fun x81 =>
  if ¬ x81 = 0 then
  some (St.done (Ex.up false))
  else
  if I64 (v8 + 1) then
  some (St.next (v8 + 1))
  else none
  else none
  else
  if I64 (v8 + 1) then
  some (St.next (v8 + 1))
  else none
  else none
  else none
  else none
  else none
  else none
  else
  some (St.done (Ex.go ()))) 0) fun x => x.then fun _ =>
  Option.bind (thronglaw18_wakes) fun x7 =>
  some x7
end Go.Proofs.YthdbofgcckjopaaGreat
