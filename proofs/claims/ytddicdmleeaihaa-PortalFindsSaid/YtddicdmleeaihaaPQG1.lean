/-
  PortalFinds as a pure function.
-/
import Derived.Test.YtddicdmleeaihaaRows
import Derived.Test.YtddicdmleeaihaaPQG
set_option linter.unusedVariables false
set_option linter.unusedSimpArgs false
set_option maxRecDepth 20000
set_option maxHeartbeats 4000000
namespace Go.Proofs.Ytddicdmleeaihaa
open Go.Vg
open Enc (R)
open Sp
def thronglaw11_PortalFinds (a0_p : Ask) : Option Bool :=
  Option.bind (thronglaw11_heavy a0_p) fun x2 =>
  if x2 = true then
  some true
  else
  Option.bind (throngref10_May a0_p.W a0_p.H a0_p.Free) fun x4 =>
  Option.bind (α := Int × List Prt) (if x4 = true then
  Option.bind (throngref10_Find a0_p.W a0_p.H a0_p.Free) fun x28 =>
  some (0, x28)
  else
  some (1, [])) fun (v6, v7) =>
  Option.bind (throngref0_CopyBools a0_p.Free) fun x9 =>
  Option.bind (portal_Find a0_p.W a0_p.H x9) fun x11 =>
  Option.bind (thronglaw11_num x11.2) fun x13 =>
  Option.bind (if ¬ x13 = v6 then
  some true
  else
  Option.bind (throngref0_EqPortals x11.1 v7) fun x26 =>
  some (!x26)) fun b16 =>
  Option.bind (if b16 = true then
  some true
  else
  Option.bind (throngref0_EqBools x9 a0_p.Free) fun x24 =>
  some (!x24)) fun b19 =>
  if b19 = true then
  some false
  else
  Option.bind (thronglaw0_Portals x11.1) fun x21 =>
  Option.bind (thronglaw11_wakes) fun x22 =>
  some x22
end Go.Proofs.Ytddicdmleeaihaa
