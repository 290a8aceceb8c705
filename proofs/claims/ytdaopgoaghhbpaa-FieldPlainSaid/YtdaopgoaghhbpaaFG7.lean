/-
  FieldPlain as a pure function.
-/
import Derived.Test.YtdaopgoaghhbpaaRows
import Derived.Test.YtdaopgoaghhbpaaFG
set_option linter.unusedVariables false
set_option linter.unusedSimpArgs false
set_option maxRecDepth 20000
set_option maxHeartbeats 4000000
namespace Go.Proofs.Ytdaopgoaghhbpaa
open Go.Vg
open Enc (R)
def thronglaw13_FieldPlain (a0_p : Ask13) : Option Bool :=
  Option.bind (α := Ex (Unit) (Bool)) (loop (σ := Int) (β := Ex (Unit) (Bool)) (fun v4 =>
  if v4 < 3 then
  if 0 ≤ (a0_p.ts.length : Int) ∧ (a0_p.ts.length : Int) ≤ 9223372036854775807 then
  if I64 (1 + ((a0_p.ts.length : Int) % 7)) then
  if I64 ((1 + ((a0_p.ts.length : Int) % 7)) + v4) then
  if I64 (1 + (a0_p.size % 4)) then
  if I64 (2 * v4) then
  if I64 ((1 + (a0_p.size % 4)) + (2 * v4)) then
  if I64 (((1 + ((a0_p.ts.length : Int) % 7)) + v4) * ((1 + (a0_p.size % 4)) + (2 * v4))) then
  if 0 ≤ (((1 + ((a0_p.ts.length : Int) % 7)) + v4) * ((1 + (a0_p.size % 4)) + (2 * v4))) ∧ (((1 + ((a0_p.ts.length : Int) % 7)) + v4) * ((1 + (a0_p.size % 4)) + (2 * v4))) ≤ 281474976710656 then
  Option.bind (α := Ex (Unit) (St (Int) (Ex (Unit) (Bool)))) (loop (σ := Int) (β := Ex (Unit) (St (Int) (Ex (Unit) (Bool)))) (fun v19 =>
  if I64 (((1 + ((a0_p.ts.length : Int) % 7)) + v4) * ((1 + (a0_p.size % 4)) + (2 * v4))) then
  if v19 < (((1 + ((a0_p.ts.length : Int) % 7)) + v4) * ((1 + (a0_p.size % 4)) + (2 * v4))) then
  Option.bind (field_Make (⟨((1 + ((a0_p.ts.length : Int) % 7)) + v4), ((1 + (a0_p.size % 4)) + (2 * v4)), (List.replicate (((1 + ((a0_p.ts.length : Int) % 7)) + v4) * ((1 + (a0_p.size % 4)) + (2 * v4))).toNat (0 : UInt8))⟩ : Grd) [] 0 0 v19) fun x23 =>
  Option.bind (thronglaw13_num x23.2) fun x25 =>
  if ¬ (¬ x25 = 0) → (I64 (((1 + ((a0_p.ts.length : Int) % 7)) + v4) * ((1 + (a0_p.size % 4)) + (2 * v4)))) then
  if (¬ x25 = 0) ∨ (¬ (x23.1.length : Int) = (((1 + ((a0_p.ts.length : Int) % 7)) + v4) * ((1 + (a0_p.size % 4)) + (2 * v4)))) then
  some (St.done (Ex.up (St.done (Ex.up false))))
  else
  Option.bind (α := Ex (Unit) (St (Int) (Ex (Unit) (St (Int) (Ex (Unit) (Bool)))))) (loop (σ := Int) (β := Ex (Unit) (St (Int) (Ex (Unit) (St (Int) (Ex (Unit) (Bool)))))) (fun v35 =>
  if I64 (((1 + ((a0_p.ts.length : Int) % 7)) + v4) * ((1 + (a0_p.size % 4)) + (2 * v4))) then
  if v35 < (((1 + ((a0_p.ts.length : Int) % 7)) + v4) * ((1 + (a0_p.size % 4)) + (2 * v4))) then
  if 0 ≤ v35 ∧ v35 ≤ 9223372036854775807 ∧ (1 : Int) ≤ ((1 + ((a0_p.ts.length : Int) % 7)) + v4) then
  if 0 ≤ v19 ∧ v19 ≤ 9223372036854775807 ∧ (1 : Int) ≤ ((1 + ((a0_p.ts.length : Int) % 7)) + v4) then
  if I64 ((v35 % ((1 + ((a0_p.ts.length : Int) % 7)) + v4)) - (v19 % ((1 + ((a0_p.ts.length : Int) % 7)) + v4))) then
  if 0 ≤ v35 ∧ v35 ≤ 9223372036854775807 ∧ (1 : Int) ≤ ((1 + ((a0_p.ts.length : Int) % 7)) + v4) then
  if 0 ≤ v19 ∧ v19 ≤ 9223372036854775807 ∧ (1 : Int) ≤ ((1 + ((a0_p.ts.length : Int) % 7)) + v4) then
  if I64 ((v35 / ((1 + ((a0_p.ts.length : Int) % 7)) + v4)) - (v19 / ((1 + ((a0_p.ts.length : Int) % 7)) + v4))) then
  if -9223372036854775807 ≤ ((v35 % ((1 + ((a0_p.ts.length : Int) % 7)) + v4)) - (v19 % ((1 + ((a0_p.ts.length : Int) % 7)) + v4))) ∧ ((v35 % ((1 + ((a0_p.ts.length : Int) % 7)) + v4)) - (v19 % ((1 + ((a0_p.ts.length : Int) % 7)) + v4))) ≤ 9223372036854775807 then
  if -9223372036854775807 ≤ ((v35 / ((1 + ((a0_p.ts.length : Int) % 7)) + v4)) - (v19 / ((1 + ((a0_p.ts.length : Int) % 7)) + v4))) ∧ ((v35 / ((1 + ((a0_p.ts.length : Int) % 7)) + v4)) - (v19 / ((1 + ((a0_p.ts.length : Int) % 7)) + v4))) ≤ 9223372036854775807 then
  if 0 ≤ v35 ∧ v35 < (x23.1.length : Int) then
  if I64 (28 * (min (max ((v35 % ((1 + ((a0_p.ts.length : Int) % 7)) + v4)) - (v19 % ((1 + ((a0_p.ts.length : Int) % 7)) + v4))) (-((v35 % ((1 + ((a0_p.ts.length : Int) % 7)) + v4)) - (v19 % ((1 + ((a0_p.ts.length : Int) % 7)) + v4))))) (max ((v35 / ((1 + ((a0_p.ts.length : Int) % 7)) + v4)) - (v19 / ((1 + ((a0_p.ts.length : Int) % 7)) + v4))) (-((v35 / ((1 + ((a0_p.ts.length : Int) % 7)) + v4)) - (v19 / ((1 + ((a0_p.ts.length : Int) % 7)) + v4))))))) then
  if I64 ((max (max ((v35 % ((1 + ((a0_p.ts.length : Int) % 7)) + v4)) - (v19 % ((1 + ((a0_p.ts.length : Int) % 7)) + v4))) (-((v35 % ((1 + ((a0_p.ts.length : Int) % 7)) + v4)) - (v19 % ((1 + ((a0_p.ts.length : Int) % 7)) + v4))))) (max ((v35 / ((1 + ((a0_p.ts.length : Int) % 7)) + v4)) - (v19 / ((1 + ((a0_p.ts.length : Int) % 7)) + v4))) (-((v35 / ((1 + ((a0_p.ts.length : Int) % 7)) + v4)) - (v19 / ((1 + ((a0_p.ts.length : Int) % 7)) + v4)))))) - (min (max ((v35 % ((1 + ((a0_p.ts.length : Int) % 7)) + v4)) - (v19 % ((1 + ((a0_p.ts.length : Int) % 7)) + v4))) (-((v35 % ((1 + ((a0_p.ts.length : Int) % 7)) + v4)) - (v19 % ((1 + ((a0_p.ts.length : Int) % 7)) + v4))))) (max ((v35 / ((1 + ((a0_p.ts.length : Int) % 7)) + v4)) - (v19 / ((1 + ((a0_p.ts.length : Int) % 7)) + v4))) (-((v35 / ((1 + ((a0_p.ts.length : Int) % 7)) + v4)) - (v19 / ((1 + ((a0_p.ts.length : Int) % 7)) + v4))))))) then
  if I64 (20 * ((max (max ((v35 % ((1 + ((a0_p.ts.length : Int) % 7)) + v4)) - (v19 % ((1 + ((a0_p.ts.length : Int) % 7)) + v4))) (-((v35 % ((1 + ((a0_p.ts.length : Int) % 7)) + v4)) - (v19 % ((1 + ((a0_p.ts.length : Int) % 7)) + v4))))) (max ((v35 / ((1 + ((a0_p.ts.length : Int) % 7)) + v4)) - (v19 / ((1 + ((a0_p.ts.length : Int) % 7)) + v4))) (-((v35 / ((1 + ((a0_p.ts.length : Int) % 7)) + v4)) - (v19 / ((1 + ((a0_p.ts.length : Int) % 7)) + v4)))))) - (min (max ((v35 % ((1 + ((a0_p.ts.length : Int) % 7)) + v4)) - (v19 % ((1 + ((a0_p.ts.length : Int) % 7)) + v4))) (-((v35 % ((1 + ((a0_p.ts.length : Int) % 7)) + v4)) - (v19 % ((1 + ((a0_p.ts.length : Int) % 7)) + v4))))) (max ((v35 / ((1 + ((a0_p.ts.length : Int) % 7)) + v4)) - (v19 / ((1 + ((a0_p.ts.length : Int) % 7)) + v4))) (-((v35 / ((1 + ((a0_p.ts.length : Int) % 7)) + v4)) - (v19 / ((1 + ((a0_p.ts.length : Int) % 7)) + v4)))))))) then
  if I64 ((28 * (min (max ((v35 % ((1 + ((a0_p.ts.length : Int) % 7)) + v4)) - (v19 % ((1 + ((a0_p.ts.length : Int) % 7)) + v4))) (-((v35 % ((1 + ((a0_p.ts.length : Int) % 7)) + v4)) - (v19 % ((1 + ((a0_p.ts.length : Int) % 7)) + v4))))) (max ((v35 / ((1 + ((a0_p.ts.length : Int) % 7)) + v4)) - (v19 / ((1 + ((a0_p.ts.length : Int) % 7)) + v4))) (-((v35 / ((1 + ((a0_p.ts.length : Int) % 7)) + v4)) - (v19 / ((1 + ((a0_p.ts.length : Int) % 7)) + v4))))))) + (20 * ((max (max ((v35 % ((1 + ((a0_p.ts.length : Int) % 7)) + v4)) - (v19 % ((1 + ((a0_p.ts.length : Int) % 7)) + v4))) (-((v35 % ((1 + ((a0_p.ts.length : Int) % 7)) + v4)) - (v19 % ((1 + ((a0_p.ts.length : Int) % 7)) + v4))))) (max ((v35 / ((1 + ((a0_p.ts.length : Int) % 7)) + v4)) - (v19 / ((1 + ((a0_p.ts.length : Int) % 7)) + v4))) (-((v35 / ((1 + ((a0_p.ts.length : Int) % 7)) + v4)) - (v19 / ((1 + ((a0_p.ts.length : Int) % 7)) + v4)))))) - (min (max ((v35 % ((1 + ((a0_p.ts.length : Int) % 7)) + v4)) - (v19 % ((1 + ((a0_p.ts.length : Int) % 7)) + v4))) (-((v35 % ((1 + ((a0_p.ts.length : Int) % 7)) + v4)) - (v19 % ((1 + ((a0_p.ts.length : Int) % 7)) + v4))))) (max ((v35 / ((1 + ((a0_p.ts.length : Int) % 7)) + v4)) - (v19 / ((1 + ((a0_p.ts.length : Int) % 7)) + v4))) (-((v35 / ((1 + ((a0_p.ts.length : Int) % 7)) + v4)) - (v19 / ((1 + ((a0_p.ts.length : Int) % 7)) + v4))))))))) then
  if ¬ (gi x23.1 v35) = ((28 * (min (max ((v35 % ((1 + ((a0_p.ts.length : Int) % 7)) + v4)) - (v19 % ((1 + ((a0_p.ts.length : Int) % 7)) + v4))) (-((v35 % ((1 + ((a0_p.ts.length : Int) % 7)) + v4)) - (v19 % ((1 + ((a0_p.ts.length : Int) % 7)) + v4))))) (max ((v35 / ((1 + ((a0_p.ts.length : Int) % 7)) + v4)) - (v19 / ((1 + ((a0_p.ts.length : Int) % 7)) + v4))) (-((v35 / ((1 + ((a0_p.ts.length : Int) % 7)) + v4)) - (v19 / ((1 + ((a0_p.ts.length : Int) % 7)) + v4))))))) + (20 * ((max (max ((v35 % ((1 + ((a0_p.ts.length : Int) % 7)) + v4)) - (v19 % ((1 + ((a0_p.ts.length : Int) % 7)) + v4))) (-((v35 % ((1 + ((a0_p.ts.length : Int) % 7)) + v4)) - (v19 % ((1 + ((a0_p.ts.length : Int) % 7)) + v4))))) (max ((v35 / ((1 + ((a0_p.ts.length : Int) % 7)) + v4)) - (v19 / ((1 + ((a0_p.ts.length : Int) % 7)) + v4))) (-((v35 / ((1 + ((a0_p.ts.length : Int) % 7)) + v4)) - (v19 / ((1 + ((a0_p.ts.length : Int) % 7)) + v4)))))) - (min (max ((v35 % ((1 + ((a0_p.ts.length : Int) % 7)) + v4)) - (v19 % ((1 + ((a0_p.ts.length : Int) % 7)) + v4))) (-((v35 % ((1 + ((a0_p.ts.length : Int) % 7)) + v4)) - (v19 % ((1 + ((a0_p.ts.length : Int) % 7)) + v4))))) (max ((v35 / ((1 + ((a0_p.ts.length : Int) % 7)) + v4)) - (v19 / ((1 + ((a0_p.ts.length : Int) % 7)) + v4))) (-((v35 / ((1 + ((a0_p.ts.length : Int) % 7)) + v4)) - (v19 / ((1 + ((a0_p.ts.length : Int) % 7)) + v4))))))))) then
  some (St.done (Ex.up (St.done (Ex.up (St.done (Ex.up false))))))
  else
  if I64 (v35 + 1) then
  some (St.next (v35 + 1))
  else none
  else none
  else none
  else none
  else none
  else none
  else none
  else none
  else none
  else none
  else none
  else none
  else none
  else none
  else
  some (St.done (Ex.go ()))
  else none) 0) fun x => x.then fun _ =>
  if I64 (v19 + 1) then
  if I64 (((1 + ((a0_p.ts.length : Int) % 7)) + v4) * ((1 + (a0_p.size % 4)) + (2 * v4))) then
  if 0 ≤ (((1 + ((a0_p.ts.length : Int) % 7)) + v4) * ((1 + (a0_p.size % 4)) + (2 * v4))) ∧ (((1 + ((a0_p.ts.length : Int) % 7)) + v4) * ((1 + (a0_p.size % 4)) + (2 * v4))) ≤ 9223372036854775807 then
  if I64 ((v19 + 1) + ((((1 + ((a0_p.ts.length : Int) % 7)) + v4) * ((1 + (a0_p.size % 4)) + (2 * v4))) / 5)) then
  some (St.next ((v19 + 1) + ((((1 + ((a0_p.ts.length : Int) % 7)) + v4) * ((1 + (a0_p.size % 4)) + (2 * v4))) / 5)))
  else none
  else none
  else none
  else none
  else none
  else
  some (St.done (Ex.go ()))
  else none) 0) fun x => x.then fun _ =>
  if I64 (v4 + 1) then
  some (St.next (v4 + 1))
  else none
  else none
  else none
  else none
  else none
  else none
  else none
  else none
  else none
  else
  some (St.done (Ex.go ()))) 0) fun x => x.then fun _ =>
  Option.bind (thronglaw13_wakes) fun x3 =>
  some x3
end Go.Proofs.Ytdaopgoaghhbpaa
