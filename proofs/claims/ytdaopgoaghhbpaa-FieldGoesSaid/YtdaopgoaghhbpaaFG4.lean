/-
  FieldGoes as a pure function.
-/
import Derived.Test.YtdaopgoaghhbpaaRows
import Derived.Test.YtdaopgoaghhbpaaFG
set_option linter.unusedVariables false
set_option linter.unusedSimpArgs false
set_option maxRecDepth 20000
set_option maxHeartbeats 4000000
namespace Go.Proofs.Ytdaopgoaghhbpaa
open Go.Vg
open Enc (R)
def thronglaw13_FieldGoes (a0_p : Ask13) : Option Bool :=
  Option.bind (thronglaw13_Heavy a0_p) fun x2 =>
  Option.bind (if x2 = true then
  some true
  else
  Option.bind (thronglaw13_form a0_p) fun x169 =>
  some (decide (¬ x169 = 0))) fun b5 =>
  if b5 = true then
  some true
  else
  Option.bind (field_Good a0_p.g a0_p.l a0_p.cls a0_p.size) fun x7 =>
  Option.bind (thronglaw13_num x7.2) fun x9 =>
  if (¬ x9 = 0) ∨ (¬ (x7.1.length : Int) = (a0_p.g.tiles.length : Int)) then
  some false
  else
  Option.bind (α := Ex (Unit) (Bool)) (loop (σ := Int) (β := Ex (Unit) (Bool)) (fun v15 =>
  if (v15 < (a0_p.ts.length : Int)) ∧ (v15 < 4) then
  if 0 ≤ v15 ∧ v15 < (a0_p.ts.length : Int) then
  Option.bind (throngref5_Tile a0_p.g (gi a0_p.ts v15)) fun x23 =>
  if (!x23) = true then
  if I64 (v15 + 1) then
  some (St.next (v15 + 1))
  else none
  else
  Option.bind (field_Make a0_p.g a0_p.l a0_p.cls a0_p.size (gi a0_p.ts v15)) fun x26 =>
  Option.bind (field_Dirs a0_p.g a0_p.l a0_p.cls a0_p.size (gi a0_p.ts v15)) fun x28 =>
  Option.bind (thronglaw13_num x26.2) fun x30 =>
  Option.bind (if ¬ x30 = 0 then
  some true
  else
  Option.bind (thronglaw13_num x28.2) fun x167 =>
  some (decide (¬ x167 = 0))) fun b33 =>
  if ((b33 = true) ∨ (¬ (x26.1.length : Int) = (x7.1.length : Int))) ∨ (¬ (x28.1.length : Int) = (x7.1.length : Int)) then
  some (St.done (Ex.up false))
  else
  Option.bind (α := Ex (Unit) (St (Int) (Ex (Unit) (Bool)))) (loop (σ := Int) (β := Ex (Unit) (St (Int) (Ex (Unit) (Bool)))) (fun v41 =>
  if v41 < (x26.1.length : Int) then
  if 0 ≤ v41 ∧ v41 < (x26.1.length : Int) then
  if ¬ ((gi x26.1 v41) < (-1)) → (0 ≤ v41 ∧ v41 < (x26.1.length : Int)) then
  if ¬ ((gi x26.1 v41) < (-1)) → ((0 ≤ (gi x26.1 v41)) → (0 ≤ v41 ∧ v41 < (x7.1.length : Int))) then
  if ¬ (((gi x26.1 v41) < (-1)) ∨ ((0 ≤ (gi x26.1 v41)) ∧ ((!(gi x7.1 v41)) = true))) → (0 ≤ v41 ∧ v41 < (x26.1.length : Int)) then
  if ¬ ((((gi x26.1 v41) < (-1)) ∨ ((0 ≤ (gi x26.1 v41)) ∧ ((!(gi x7.1 v41)) = true))) ∨ (((gi x26.1 v41) = 0) ∧ (¬ v41 = (gi a0_p.ts v15)))) → (0 ≤ v41 ∧ v41 < (x28.1.length : Int)) then
  if ¬ ((((gi x26.1 v41) < (-1)) ∨ ((0 ≤ (gi x26.1 v41)) ∧ ((!(gi x7.1 v41)) = true))) ∨ (((gi x26.1 v41) = 0) ∧ (¬ v41 = (gi a0_p.ts v15)))) → (0 ≤ v41 ∧ v41 < (x26.1.length : Int)) then
  if ((((gi x26.1 v41) < (-1)) ∨ ((0 ≤ (gi x26.1 v41)) ∧ ((!(gi x7.1 v41)) = true))) ∨ (((gi x26.1 v41) = 0) ∧ (¬ v41 = (gi a0_p.ts v15)))) ∨ (¬ (decide (0 ≤ (gi x28.1 v41))) = (decide (0 < (gi x26.1 v41)))) then
  some (St.done (Ex.up (St.done (Ex.up false))))
  else
  Option.bind (α := Ex (Int × Int) (St (Int) (Ex (Unit) (St (Int) (Ex (Unit) (Bool)))))) (loop (σ := Int × Int × Int) (β := Ex (Int × Int) (St (Int) (Ex (Unit) (St (Int) (Ex (Unit) (Bool)))))) (fun (v110, v111, v112) =>
  if (v112 ≤ (x26.1.length : Int)) → (0 ≤ v110 ∧ v110 < (x26.1.length : Int)) then
  if (v112 ≤ (x26.1.length : Int)) ∧ (0 < (gi x26.1 v110)) then
  if 0 ≤ v110 ∧ v110 < (x28.1.length : Int) then
  if ¬ ((gi x28.1 v110) < 0) → (0 ≤ v110 ∧ v110 < (x28.1.length : Int)) then
  if ((gi x28.1 v110) < 0) ∨ (7 < (gi x28.1 v110)) then
  some (St.done (Ex.up (St.done (Ex.up (St.done (Ex.up false))))))
  else
  if 0 ≤ v110 ∧ v110 < (x28.1.length : Int) then
  Option.bind (throngref5_Near a0_p.g v110) fun x126 =>
  if 0 ≤ (gi x28.1 v110) ∧ (gi x28.1 v110) < (x126.length : Int) then
  if ¬ ((gi x126 (gi x28.1 v110)) < 0) → (0 ≤ (gi x126 (gi x28.1 v110)) ∧ (gi x126 (gi x28.1 v110)) < (x7.1.length : Int)) then
  if ((gi x126 (gi x28.1 v110)) < 0) ∨ ((!(gi x7.1 (gi x126 (gi x28.1 v110)))) = true) then
  some (St.done (Ex.up (St.done (Ex.up (St.done (Ex.up false))))))
  else
  if 0 ≤ v110 ∧ v110 < (x28.1.length : Int) then
  if (3 < (gi x28.1 v110)) → (0 ≤ v110 ∧ v110 ≤ 9223372036854775807 ∧ (1 : Int) ≤ a0_p.g.w) then
  if (3 < (gi x28.1 v110)) → (0 ≤ (gi x126 (gi x28.1 v110)) ∧ (gi x126 (gi x28.1 v110)) ≤ 9223372036854775807 ∧ (1 : Int) ≤ a0_p.g.w) then
  if (3 < (gi x28.1 v110)) → (I64 (((gi x126 (gi x28.1 v110)) / a0_p.g.w) * a0_p.g.w)) then
  if (3 < (gi x28.1 v110)) → (I64 ((v110 % a0_p.g.w) + (((gi x126 (gi x28.1 v110)) / a0_p.g.w) * a0_p.g.w))) then
  if (3 < (gi x28.1 v110)) → (0 ≤ ((v110 % a0_p.g.w) + (((gi x126 (gi x28.1 v110)) / a0_p.g.w) * a0_p.g.w)) ∧ ((v110 % a0_p.g.w) + (((gi x126 (gi x28.1 v110)) / a0_p.g.w) * a0_p.g.w)) < (x7.1.length : Int)) then
  if (3 < (gi x28.1 v110)) → (¬ ((!(gi x7.1 ((v110 % a0_p.g.w) + (((gi x126 (gi x28.1 v110)) / a0_p.g.w) * a0_p.g.w)))) = true) → (0 ≤ (gi x126 (gi x28.1 v110)) ∧ (gi x126 (gi x28.1 v110)) ≤ 9223372036854775807 ∧ (1 : Int) ≤ a0_p.g.w)) then
  if (3 < (gi x28.1 v110)) → (¬ ((!(gi x7.1 ((v110 % a0_p.g.w) + (((gi x126 (gi x28.1 v110)) / a0_p.g.w) * a0_p.g.w)))) = true) → (0 ≤ v110 ∧ v110 ≤ 9223372036854775807 ∧ (1 : Int) ≤ a0_p.g.w)) then
  if (3 < (gi x28.1 v110)) → (¬ ((!(gi x7.1 ((v110 % a0_p.g.w) + (((gi x126 (gi x28.1 v110)) / a0_p.g.w) * a0_p.g.w)))) = true) → (I64 ((v110 / a0_p.g.w) * a0_p.g.w))) then
  if (3 < (gi x28.1 v110)) → (¬ ((!(gi x7.1 ((v110 % a0_p.g.w) + (((gi x126 (gi x28.1 v110)) / a0_p.g.w) * a0_p.g.w)))) = true) → (I64 (((gi x126 (gi x28.1 v110)) % a0_p.g.w) + ((v110 / a0_p.g.w) * a0_p.g.w)))) then
  if (3 < (gi x28.1 v110)) → (¬ ((!(gi x7.1 ((v110 % a0_p.g.w) + (((gi x126 (gi x28.1 v110)) / a0_p.g.w) * a0_p.g.w)))) = true) → (0 ≤ (((gi x126 (gi x28.1 v110)) % a0_p.g.w) + ((v110 / a0_p.g.w) * a0_p.g.w)) ∧ (((gi x126 (gi x28.1 v110)) % a0_p.g.w) + ((v110 / a0_p.g.w) * a0_p.g.w)) < (x7.1.length : Int))) then
  if (3 < (gi x28.1 v110)) ∧ (((!(gi x7.1 ((v110 % a0_p.g.w) + (((gi x126 (gi x28.1 v110)) / a0_p.g.w) * a0_p.g.w)))) = true) ∨ ((!(gi x7.1 (((gi x126 (gi x28.1 v110)) % a0_p.g.w) + ((v110 / a0_p.g.w) * a0_p.g.w)))) = true)) then
  some (St.done (Ex.up (St.done (Ex.up (St.done (Ex.up false))))))
  else
  Option.bind (thronglaw13_cost a0_p.g a0_p.cls v110 (gi x126 (gi x28.1 v110))) fun x149 =>
  if I64 (v111 + x149) then
  if I64 (v112 + 1) then
  some (St.next ((gi x126 (gi x28.1 v110)), (v111 + x149), (v112 + 1)))
  else none
  else none
  else none
  else none
  else none
  else none
  else none
  else none
  else none
  else none
  else none
  else none
  else none
  else none
  else none
  else none
  else none
  else none
  else
  some (St.done (Ex.go (v110, v111)))
  else none) (v41, 0, 0)) fun x => x.then fun (v60, v61) =>
  if 0 ≤ v41 ∧ v41 < (x26.1.length : Int) then
  if (0 ≤ (gi x26.1 v41)) → (¬ (¬ v60 = (gi a0_p.ts v15)) → (0 ≤ v41 ∧ v41 < (x26.1.length : Int))) then
  if (0 ≤ (gi x26.1 v41)) ∧ ((¬ v60 = (gi a0_p.ts v15)) ∨ (¬ v61 = (gi x26.1 v41))) then
  some (St.done (Ex.up (St.done (Ex.up false))))
  else
  Option.bind (throngref5_Near a0_p.g v41) fun x67 =>
  Option.bind (α := Ex (Unit) (St (Int) (Ex (Unit) (St (Int) (Ex (Unit) (Bool)))))) (loop (σ := Int) (β := Ex (Unit) (St (Int) (Ex (Unit) (St (Int) (Ex (Unit) (Bool)))))) (fun v71 =>
  if v71 < 4 then
  if 0 ≤ v71 ∧ v71 < (x67.length : Int) then
  if (0 ≤ (gi x67 v71)) → (0 ≤ v41 ∧ v41 < (x7.1.length : Int)) then
  if ((0 ≤ (gi x67 v71)) ∧ ((gi x7.1 v41) = true)) → (0 ≤ (gi x67 v71) ∧ (gi x67 v71) < (x7.1.length : Int)) then
  Option.bind (if ((0 ≤ (gi x67 v71)) ∧ ((gi x7.1 v41) = true)) ∧ ((gi x7.1 (gi x67 v71)) = true) then
  if 0 ≤ v41 ∧ v41 < (x26.1.length : Int) then
  if 0 ≤ (gi x67 v71) ∧ (gi x67 v71) < (x26.1.length : Int) then
  Option.bind (if ¬ (decide ((gi x26.1 v41) < 0)) = (decide ((gi x26.1 (gi x67 v71)) < 0)) then
  some true
  else
  if 0 ≤ v41 ∧ v41 < (x26.1.length : Int) then
  Option.bind (if 0 ≤ (gi x26.1 v41) then
  if 0 ≤ v41 ∧ v41 < (x26.1.length : Int) then
  if 0 ≤ (gi x67 v71) ∧ (gi x67 v71) < (x26.1.length : Int) then
  Option.bind (thronglaw13_cost a0_p.g a0_p.cls v41 (gi x67 v71)) fun x102 =>
  if I64 ((gi x26.1 (gi x67 v71)) + x102) then
  some (decide (((gi x26.1 (gi x67 v71)) + x102) < (gi x26.1 v41)))
  else none
  else none
  else none
  else
  some false) fun b98 =>
  some b98
  else none) fun b93 =>
  some b93
  else none
  else none
  else
  some false) fun b85 =>
  if b85 = true then
  some (St.done (Ex.up (St.done (Ex.up (St.done (Ex.up false))))))
  else
  if I64 (v71 + 1) then
  some (St.next (v71 + 1))
  else none
  else none
  else none
  else none
  else
  some (St.done (Ex.go ()))) 0) fun x => x.then fun _ =>
  if I64 (v41 + 1) then
  some (St.next (v41 + 1))
  else none
  else none
  else none
  else none
  else none
  else none
  else none
  else none
  else none
  else
  some (St.done (Ex.go ()))) 0) fun x => x.then fun _ =>
  if I64 (v15 + 1) then
  some (St.next (v15 + 1))
  else none
  else none
  else
  some (St.done (Ex.go ()))) 0) fun x => x.then fun _ =>
  Option.bind (thronglaw13_wakes) fun x14 =>
  some x14
end Go.Proofs.Ytdaopgoaghhbpaa
