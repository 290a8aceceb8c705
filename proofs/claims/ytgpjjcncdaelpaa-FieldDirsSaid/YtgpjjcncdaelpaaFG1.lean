/-
  FieldGoods as a pure function.
-/
import Derived.Test.YtgpjjcncdaelpaaRows
import Derived.Test.YtgpjjcncdaelpaaFG
set_option linter.unusedVariables false
set_option linter.unusedSimpArgs false
set_option maxRecDepth 20000
set_option maxHeartbeats 4000000
namespace Go.Proofs.Ytgpjjcncdaelpaa
open Go.Vg
open Enc (R)
def thronglaw13_FieldGoods (a0_p : Ask13) : Option Bool :=
  Option.bind (thronglaw13_Heavy a0_p) fun x2 =>
  if x2 = true then
  some true
  else
  Option.bind (thronglaw13_form a0_p) fun x4 =>
  Option.bind (α := List Bool) (if x4 = 0 then
  Option.bind (throngref13_Good a0_p.g a0_p.l a0_p.cls a0_p.size) fun x20 =>
  some x20
  else
  some []) fun v6 =>
  Option.bind (field_Good a0_p.g a0_p.l a0_p.cls a0_p.size) fun x8 =>
  Option.bind (thronglaw13_num x8.2) fun x10 =>
  Option.bind (if ¬ x10 = x4 then
  some true
  else
  Option.bind (throngref0_EqBools x8.1 v6) fun x18 =>
  some (!x18)) fun b13 =>
  if b13 = true then
  some false
  else
  Option.bind (thronglaw0_Bools x8.1) fun x15 =>
  Option.bind (thronglaw13_wakes) fun x16 =>
  some x16
end Go.Proofs.Ytgpjjcncdaelpaa
