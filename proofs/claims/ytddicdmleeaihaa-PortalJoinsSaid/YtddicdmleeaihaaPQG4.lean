/-
  PortalJoins as a pure function.
-/
import Derived.Test.YtddicdmleeaihaaRows
import Derived.Test.YtddicdmleeaihaaPQG
set_option linter.unusedVariables false
set_option linter.unusedSimpArgs false
set_option maxRecDepth 20000
set_option maxHeartbeats 4000000
namespace Go.Proofs.Ytddicdmleeaihaa
open Go.Vg
open Enc (R)
open Sp
noncomputable def thronglaw11_PortalJoins (a0_p : Ask) : Option Bool :=
  Option.bind (thronglaw11_heavy a0_p) fun x2 =>
  if x2 = true then
  some true
  else
  Option.bind (portal_Find a0_p.W a0_p.H a0_p.Free) fun x4 =>
  Option.bind (sector_Parts a0_p.W a0_p.H a0_p.Free) fun x6 =>
  Option.bind (thronglaw11_num x4.2) fun x8 =>
  if ¬ x8 = 0 then
  Option.bind (thronglaw11_num x6.2) fun x10 =>
  Option.bind (thronglaw11_num x4.2) fun x11 =>
  some (decide (x10 = x11))
  else
  Option.bind (thronglaw11_num x6.2) fun x12 =>
  if ¬ (¬ x12 = 0) → (I64 (a0_p.W * a0_p.H)) then
  if (¬ x12 = 0) ∨ (¬ (x6.1.length : Int) = (a0_p.W * a0_p.H)) then
  some false
  else
  Option.bind (α := Ex (Unit) (Bool)) (loop (σ := Int) (β := Ex (Unit) (Bool)) (fun v19 =>
  if I64 (a0_p.W * a0_p.H) then
  if v19 < (a0_p.W * a0_p.H) then
  Option.bind (α := Ex (Unit) (St (Int) (Ex (Unit) (Bool)))) (loop (σ := Int) (β := Ex (Unit) (St (Int) (Ex (Unit) (Bool)))) (fun v25 =>
  if v25 < 2 then
  Option.bind (α := Ex (Unit) (St (Int) (Ex (Unit) (St (Int) (Ex (Unit) (Bool)))))) (if I64 (v19 + 1) then
  Option.bind (α := Ex (Int) (Ex (Unit) (St (Int) (Ex (Unit) (St (Int) (Ex (Unit) (Bool))))))) (if v25 = 1 then
  if I64 (v19 + a0_p.W) then
  if 0 ≤ v19 ∧ v19 ≤ 9223372036854775807 ∧ (1 : Int) ≤ a0_p.W then
  if I64 (a0_p.H - 1) then
  if (v19 / a0_p.W) = (a0_p.H - 1) then
  some (Ex.up (Ex.go ()))
  else
  some (Ex.go (v19 + a0_p.W))
  else none
  else none
  else none
  else
  if 0 ≤ v19 ∧ v19 ≤ 9223372036854775807 ∧ (1 : Int) ≤ a0_p.W then
  if I64 (a0_p.W - 1) then
  if (v19 % a0_p.W) = (a0_p.W - 1) then
  some (Ex.up (Ex.go ()))
  else
  some (Ex.go (v19 + 1))
  else none
  else none) fun x => x.then fun v32 =>
  Option.bind (thronglaw11_apart a0_p v19 v32) fun x33 =>
  if (!x33) = true then
  some (Ex.go ())
  else
  Option.bind (α := Ex (Bool) (Ex (Unit) (St (Int) (Ex (Unit) (St (Int) (Ex (Unit) (Bool))))))) (loop (σ := Bool × Int) (β := Ex (Bool) (Ex (Unit) (St (Int) (Ex (Unit) (St (Int) (Ex (Unit) (Bool))))))) (fun (v38, v39) =>
  if v39 < (x4.1.length : Int) then
  if 0 ≤ v39 ∧ v39 < (x4.1.length : Int) then
  if ¬ ((gi x4.1 v39).a < 0) → (0 ≤ v39 ∧ v39 < (x4.1.length : Int)) then
  if ¬ (((gi x4.1 v39).a < 0) ∨ ((x6.1.length : Int) ≤ (gi x4.1 v39).a)) → (0 ≤ v39 ∧ v39 < (x4.1.length : Int)) then
  if ¬ ((((gi x4.1 v39).a < 0) ∨ ((x6.1.length : Int) ≤ (gi x4.1 v39).a)) ∨ ((gi x4.1 v39).b < 0)) → (0 ≤ v39 ∧ v39 < (x4.1.length : Int)) then
  if ((((gi x4.1 v39).a < 0) ∨ ((x6.1.length : Int) ≤ (gi x4.1 v39).a)) ∨ ((gi x4.1 v39).b < 0)) ∨ ((x6.1.length : Int) ≤ (gi x4.1 v39).b) then
  some (St.done (Ex.up (Ex.up (St.done (Ex.up (St.done (Ex.up false)))))))
  else
  if ¬ (v38 = true) → (0 ≤ v39 ∧ v39 < (x4.1.length : Int)) then
  if ¬ (v38 = true) → (0 ≤ (gi x4.1 v39).a ∧ (gi x4.1 v39).a < (x6.1.length : Int)) then
  if ¬ (v38 = true) → (0 ≤ v19 ∧ v19 < (x6.1.length : Int)) then
  if ¬ (v38 = true) → (((gi x6.1 ((gi x4.1 v39).a)) = (gi x6.1 v19)) → (0 ≤ v39 ∧ v39 < (x4.1.length : Int))) then
  if ¬ (v38 = true) → (((gi x6.1 ((gi x4.1 v39).a)) = (gi x6.1 v19)) → (0 ≤ (gi x4.1 v39).b ∧ (gi x4.1 v39).b < (x6.1.length : Int))) then
  if ¬ (v38 = true) → (((gi x6.1 ((gi x4.1 v39).a)) = (gi x6.1 v19)) → (0 ≤ v32 ∧ v32 < (x6.1.length : Int))) then
  if I64 (v39 + 1) then
  some (St.next (decide ((v38 = true) ∨ (((gi x6.1 ((gi x4.1 v39).a)) = (gi x6.1 v19)) ∧ ((gi x6.1 ((gi x4.1 v39).b)) = (gi x6.1 v32)))), (v39 + 1)))
  else none
  else none
  else none
  else none
  else none
  else none
  else none
  else none
  else none
  else none
  else none
  else
  some (St.done (Ex.go v38))) (false, 0)) fun x => x.then fun v36 =>
  if (!v36) = true then
  some (Ex.up (St.done (Ex.up (St.done (Ex.up false)))))
  else
  some (Ex.go ())
  else none) fun x => x.then fun _ =>
  if I64 (v25 + 1) then
  some (St.next (v25 + 1))
  else none
  else
  some (St.done (Ex.go ()))) 0) fun x => x.then fun _ =>
  if I64 (v19 + 1) then
  some (St.next (v19 + 1))
  else none
  else
  some (St.done (Ex.go ()))
  else none) 0) fun x => x.then fun _ =>
  Option.bind (thronglaw11_wakes) fun x18 =>
  some x18
  else none
end Go.Proofs.Ytddicdmleeaihaa
