/-
  PortalPairs as a pure function.
-/
import Derived.Test.YtddicdmleeaihaaRows
import Derived.Test.YtddicdmleeaihaaPQG
set_option linter.unusedVariables false
set_option linter.unusedSimpArgs false
set_option maxRecDepth 20000
set_option maxHeartbeats 4000000
namespace Go.Proofs.Ytddicdmleeaihaa
open Go.Vg
open Enc (R)
open Sp
def thronglaw11_PortalPairs (a0_p : Ask) : Option Bool :=
  Option.bind (thronglaw11_heavy a0_p) fun x2 =>
  if x2 = true then
  some true
  else
  Option.bind (portal_Find a0_p.W a0_p.H a0_p.Free) fun x4 =>
  Option.bind (thronglaw11_num x4.2) fun x6 =>
  if ¬ x6 = 0 then
  some true
  else
  Option.bind (α := Int) (loop (σ := Int × Int) (β := Int) (fun (v73, v74) =>
  if I64 (a0_p.W * a0_p.H) then
  if v74 < (a0_p.W * a0_p.H) then
  if 0 ≤ v74 ∧ v74 ≤ 9223372036854775807 ∧ (1 : Int) ≤ a0_p.W then
  if I64 (a0_p.W - 1) then
  Option.bind (if (v74 % a0_p.W) < (a0_p.W - 1) then
  if I64 (v74 + 1) then
  Option.bind (thronglaw11_apart a0_p v74 (v74 + 1)) fun x101 =>
  some x101
  else none
  else
  some false) fun b82 =>
  Option.bind (α := Int) (if b82 = true then
  if I64 (v73 + 1) then
  some (v73 + 1)
  else none
  else
  some v73) fun v84 =>
  if 0 ≤ v74 ∧ v74 ≤ 9223372036854775807 ∧ (1 : Int) ≤ a0_p.W then
  if I64 (a0_p.H - 1) then
  Option.bind (if (v74 / a0_p.W) < (a0_p.H - 1) then
  if I64 (v74 + a0_p.W) then
  Option.bind (thronglaw11_apart a0_p v74 (v74 + a0_p.W)) fun x96 =>
  some x96
  else none
  else
  some false) fun b89 =>
  if b89 = true then
  if I64 (v84 + 1) then
  if I64 (v74 + 1) then
  some (St.next ((v84 + 1), (v74 + 1)))
  else none
  else none
  else
  if I64 (v74 + 1) then
  some (St.next (v84, (v74 + 1)))
  else none
  else none
  else none
  else none
  else none
  else
  some (St.done v73)
  else none) (0, 0)) fun v9 =>
  Option.bind (α := Ex (Int) (Bool)) (loop (σ := Int × Int) (β := Ex (Int) (Bool)) (fun (v17, v18) =>
  if v18 < (x4.1.length : Int) then
  if 0 ≤ v18 ∧ v18 < (x4.1.length : Int) then
  if 0 ≤ v18 ∧ v18 < (x4.1.length : Int) then
  if ¬ (((gi x4.1 v18).a < 0) ∨ ((gi x4.1 v18).b ≤ (gi x4.1 v18).a)) → (I64 (a0_p.W * a0_p.H)) then
  if ¬ ((((gi x4.1 v18).a < 0) ∨ ((gi x4.1 v18).b ≤ (gi x4.1 v18).a)) ∨ ((a0_p.W * a0_p.H) ≤ (gi x4.1 v18).b)) → (I64 (((gi x4.1 v18).a) + 1)) then
  if ¬ ((((gi x4.1 v18).a < 0) ∨ ((gi x4.1 v18).b ≤ (gi x4.1 v18).a)) ∨ ((a0_p.W * a0_p.H) ≤ (gi x4.1 v18).b)) → ((¬ (gi x4.1 v18).b = (((gi x4.1 v18).a) + 1)) → (I64 (((gi x4.1 v18).a) + a0_p.W))) then
  if ¬ (((((gi x4.1 v18).a < 0) ∨ ((gi x4.1 v18).b ≤ (gi x4.1 v18).a)) ∨ ((a0_p.W * a0_p.H) ≤ (gi x4.1 v18).b)) ∨ ((¬ (gi x4.1 v18).b = (((gi x4.1 v18).a) + 1)) ∧ (¬ (gi x4.1 v18).b = (((gi x4.1 v18).a) + a0_p.W)))) → (I64 (((gi x4.1 v18).a) + 1)) then
  if ¬ (((((gi x4.1 v18).a < 0) ∨ ((gi x4.1 v18).b ≤ (gi x4.1 v18).a)) ∨ ((a0_p.W * a0_p.H) ≤ (gi x4.1 v18).b)) ∨ ((¬ (gi x4.1 v18).b = (((gi x4.1 v18).a) + 1)) ∧ (¬ (gi x4.1 v18).b = (((gi x4.1 v18).a) + a0_p.W)))) → ((((gi x4.1 v18).b = (((gi x4.1 v18).a) + 1)) ∧ (1 < a0_p.W)) → (0 ≤ (gi x4.1 v18).a ∧ (gi x4.1 v18).a ≤ 9223372036854775807 ∧ (1 : Int) ≤ a0_p.W)) then
  if ¬ (((((gi x4.1 v18).a < 0) ∨ ((gi x4.1 v18).b ≤ (gi x4.1 v18).a)) ∨ ((a0_p.W * a0_p.H) ≤ (gi x4.1 v18).b)) ∨ ((¬ (gi x4.1 v18).b = (((gi x4.1 v18).a) + 1)) ∧ (¬ (gi x4.1 v18).b = (((gi x4.1 v18).a) + a0_p.W)))) → ((((gi x4.1 v18).b = (((gi x4.1 v18).a) + 1)) ∧ (1 < a0_p.W)) → (I64 (a0_p.W - 1))) then
  Option.bind (if (((((gi x4.1 v18).a < 0) ∨ ((gi x4.1 v18).b ≤ (gi x4.1 v18).a)) ∨ ((a0_p.W * a0_p.H) ≤ (gi x4.1 v18).b)) ∨ ((¬ (gi x4.1 v18).b = (((gi x4.1 v18).a) + 1)) ∧ (¬ (gi x4.1 v18).b = (((gi x4.1 v18).a) + a0_p.W)))) ∨ ((((gi x4.1 v18).b = (((gi x4.1 v18).a) + 1)) ∧ (1 < a0_p.W)) ∧ ((((gi x4.1 v18).a) % a0_p.W) = (a0_p.W - 1))) then
  some true
  else
  Option.bind (thronglaw11_apart a0_p ((gi x4.1 v18).a) ((gi x4.1 v18).b)) fun x66 =>
  some (!x66)) fun b41 =>
  if ¬ (b41 = true) → (0 ≤ v18 ∧ v18 < (x4.1.length : Int)) then
  if ¬ ((b41 = true) ∨ ((gi x4.1 v18).width < 1)) → (0 ≤ v18 ∧ v18 < (x4.1.length : Int)) then
  if ((b41 = true) ∨ ((gi x4.1 v18).width < 1)) ∨ (8 < (gi x4.1 v18).width) then
  some (St.done (Ex.up false))
  else
  if (0 < v18) → (I64 (v18 - 1)) then
  if (0 < v18) → (0 ≤ (v18 - 1) ∧ (v18 - 1) < (x4.1.length : Int)) then
  if (0 < v18) → (¬ ((gi x4.1 v18).a < (gi x4.1 (v18 - 1)).a) → (I64 (v18 - 1))) then
  if (0 < v18) → (¬ ((gi x4.1 v18).a < (gi x4.1 (v18 - 1)).a) → (0 ≤ (v18 - 1) ∧ (v18 - 1) < (x4.1.length : Int))) then
  if (0 < v18) → (¬ ((gi x4.1 v18).a < (gi x4.1 (v18 - 1)).a) → (((gi x4.1 (v18 - 1)).a = (gi x4.1 v18).a) → (I64 (v18 - 1)))) then
  if (0 < v18) → (¬ ((gi x4.1 v18).a < (gi x4.1 (v18 - 1)).a) → (((gi x4.1 (v18 - 1)).a = (gi x4.1 v18).a) → (0 ≤ (v18 - 1) ∧ (v18 - 1) < (x4.1.length : Int)))) then
  if (0 < v18) ∧ (((gi x4.1 v18).a < (gi x4.1 (v18 - 1)).a) ∨ (((gi x4.1 (v18 - 1)).a = (gi x4.1 v18).a) ∧ ((gi x4.1 v18).b ≤ (gi x4.1 (v18 - 1)).b))) then
  some (St.done (Ex.up false))
  else
  if 0 ≤ v18 ∧ v18 < (x4.1.length : Int) then
  if I64 (v17 - ((gi x4.1 v18).width)) then
  if I64 (v18 + 1) then
  some (St.next ((v17 - ((gi x4.1 v18).width)), (v18 + 1)))
  else none
  else none
  else none
  else none
  else none
  else none
  else none
  else none
  else none
  else none
  else none
  else none
  else none
  else none
  else none
  else none
  else none
  else none
  else none
  else
  some (St.done (Ex.go v17))) (v9, 0)) fun x => x.then fun v11 =>
  Option.bind (if v11 = 0 then
  Option.bind (thronglaw11_wakes) fun x16 =>
  some x16
  else
  some false) fun b14 =>
  some b14
end Go.Proofs.Ytddicdmleeaihaa
