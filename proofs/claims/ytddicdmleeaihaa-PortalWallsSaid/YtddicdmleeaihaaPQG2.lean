/-
  PortalWalls as a pure function.
-/
import Derived.Test.YtddicdmleeaihaaRows
import Derived.Test.YtddicdmleeaihaaPQG
set_option linter.unusedVariables false
set_option linter.unusedSimpArgs false
set_option maxRecDepth 20000
set_option maxHeartbeats 4000000
namespace Go.Proofs.Ytddicdmleeaihaa
open Go.Vg
open Enc (R)
open Sp
def thronglaw11_PortalWalls (a0_p : Ask) : Option Bool :=
  Option.bind (α := Ex (Unit) (Bool)) (loop (σ := Int) (β := Ex (Unit) (Bool)) (fun v4 =>
  if v4 < 256 then
  if 0 ≤ (128 : Int) ∧ (128 : Int) ≤ 281474976710656 then
  Option.bind (α := List Bool) (loop (σ := Int × List Bool) (β := List Bool) (fun (v62, l63) =>
  if v62 < ((128 : Int).toNat : Int) then
  if 0 ≤ v62 ∧ v62 ≤ 9223372036854775807 then
  if ¬ (¬ (v62 % 16) = 8) → (0 ≤ v62 ∧ v62 ≤ 9223372036854775807) then
  if ¬ (¬ (v62 % 16) = 8) → (0 ≤ (v62 / 16) ∧ (v62 / 16) < 64) then
  if 0 ≤ v62 ∧ v62 < ((128 : Int).toNat : Int) then
  if I64 (v62 + 1) then
  some (St.next ((v62 + 1), (si l63 v62 (decide ((¬ (v62 % 16) = 8) ∨ (((v4 / 2 ^ (v62 / 16).toNat) % 2) = 1))))))
  else none
  else none
  else none
  else none
  else none
  else
  some (St.done l63)) (0, (List.replicate (128 : Int).toNat false))) fun v10 =>
  Option.bind (α := Int × Int) (loop (σ := Int × Int × Int) (β := Int × Int) (fun (v45, v46, v47) =>
  if v47 < 8 then
  if 0 ≤ v47 ∧ v47 < 64 then
  if ((v4 / 2 ^ v47.toNat) % 2) = 1 then
  if I64 (v46 + 1) then
  if ¬ (v47 = 0) → (I64 (v47 - 1)) then
  if ¬ (v47 = 0) → (0 ≤ (v47 - 1) ∧ (v47 - 1) < 64) then
  if (v47 = 0) ∨ (((v4 / 2 ^ (v47 - 1).toNat) % 2) = 0) then
  if I64 (v45 + 1) then
  if I64 (v47 + 1) then
  some (St.next ((v45 + 1), (v46 + 1), (v47 + 1)))
  else none
  else none
  else
  if I64 (v47 + 1) then
  some (St.next (v45, (v46 + 1), (v47 + 1)))
  else none
  else none
  else none
  else none
  else
  if I64 (v47 + 1) then
  some (St.next (v45, v46, (v47 + 1)))
  else none
  else none
  else
  some (St.done (v45, v46))) (0, 0, 0)) fun (v12, v13) =>
  Option.bind (portal_Find 16 8 v10) fun x14 =>
  Option.bind (thronglaw11_num x14.2) fun x16 =>
  if (¬ x16 = 0) ∨ (¬ (x14.1.length : Int) = v12) then
  some (St.done (Ex.up false))
  else
  Option.bind (α := Ex (Int) (St (Int) (Ex (Unit) (Bool)))) (loop (σ := Int × Int) (β := Ex (Int) (St (Int) (Ex (Unit) (Bool)))) (fun (v26, v27) =>
  if v27 < (x14.1.length : Int) then
  if 0 ≤ v27 ∧ v27 < (x14.1.length : Int) then
  if I64 (v26 - ((gi x14.1 v27).width)) then
  if 0 ≤ v27 ∧ v27 < (x14.1.length : Int) then
  if 0 ≤ (gi x14.1 v27).a ∧ (gi x14.1 v27).a ≤ 9223372036854775807 then
  if ¬ (¬ (((gi x14.1 v27).a) % 16) = 7) → (0 ≤ v27 ∧ v27 < (x14.1.length : Int)) then
  if ¬ (¬ (((gi x14.1 v27).a) % 16) = 7) → (0 ≤ v27 ∧ v27 < (x14.1.length : Int)) then
  if ¬ (¬ (((gi x14.1 v27).a) % 16) = 7) → (0 ≤ v27 ∧ v27 < (x14.1.length : Int)) then
  if ¬ (¬ (((gi x14.1 v27).a) % 16) = 7) → (I64 (((gi x14.1 v27).a) + 1)) then
  if ¬ (¬ (((gi x14.1 v27).a) % 16) = 7) → (0 ≤ v27 ∧ v27 < (x14.1.length : Int)) then
  if (¬ (((gi x14.1 v27).a) % 16) = 7) ∨ (¬ (gi x14.1 v27) = (⟨(gi x14.1 v27).a, (((gi x14.1 v27).a) + 1), (gi x14.1 v27).width⟩ : Prt)) then
  some (St.done (Ex.up (St.done (Ex.up false))))
  else
  if I64 (v27 + 1) then
  some (St.next ((v26 - ((gi x14.1 v27).width)), (v27 + 1)))
  else none
  else none
  else none
  else none
  else none
  else none
  else none
  else none
  else none
  else none
  else
  some (St.done (Ex.go v26))) (v13, 0)) fun x => x.then fun v21 =>
  if ¬ v21 = 0 then
  some (St.done (Ex.up false))
  else
  if I64 (v4 + 1) then
  if 0 ≤ (a0_p.Ts.length : Int) ∧ (a0_p.Ts.length : Int) ≤ 9223372036854775807 then
  if I64 ((v4 + 1) + ((a0_p.Ts.length : Int) % 5)) then
  some (St.next ((v4 + 1) + ((a0_p.Ts.length : Int) % 5)))
  else none
  else none
  else none
  else none
  else
  some (St.done (Ex.go ()))) 0) fun x => x.then fun _ =>
  Option.bind (thronglaw11_wakes) fun x3 =>
  some x3
end Go.Proofs.Ytddicdmleeaihaa
