/-
  What the page says of routes, as pure functions.
-/
import Derived.Test.YthdbofgcckjopaaGreatRows
import Derived.Test.YthdbofgcckjopaaGreatRPO
import Derived.Test.YthdbofgcckjopaaGreatRG
import Derived.Test.YthdbofgcckjopaaGreatW3
set_option linter.unusedVariables false
set_option linter.unusedSimpArgs false
set_option maxRecDepth 20000
set_option maxHeartbeats 4000000
namespace Go.Proofs.YthdbofgcckjopaaGreat
open Go.Vg
open Enc (R)
def throngref0_CopyPortals (a0_l : List Prt) : Option (List Prt) :=
  Option.bind (α := List Prt) (loop (σ := List Prt × Int) (β := List Prt) (fun (l4, v6) =>
  if v6 < (a0_l.length : Int) then
  if 0 ≤ v6 ∧ v6 < (a0_l.length : Int) then
  if l4.length < 1099511627776 then
  if I64 (v6 + 1) then
  some (St.next ((l4 ++ [(gi a0_l v6)]), (v6 + 1)))
  else none
  else none
  else none
  else
  some (St.done l4)) ([], 0)) fun v2 =>
  some v2
def throngref10_pair (a0_w : Int) (a1_h : Int) (a2_free : List Bool) (a3_t : Int) (a4_down : Bool) : Option (Int × Bool) :=
  if I64 (a3_t + 1) then
  Option.bind (α := Ex (Int) (Int × Bool)) (if a4_down = true then
  if I64 (a3_t + a0_w) then
  if 0 ≤ a3_t ∧ a3_t ≤ 9223372036854775807 ∧ (1 : Int) ≤ a0_w then
  if I64 (a1_h - 1) then
  if (a3_t / a0_w) = (a1_h - 1) then
  some (Ex.up (0, false))
  else
  some (Ex.go (a3_t + a0_w))
  else none
  else none
  else none
  else
  if 0 ≤ a3_t ∧ a3_t ≤ 9223372036854775807 ∧ (1 : Int) ≤ a0_w then
  if I64 (a0_w - 1) then
  if (a3_t % a0_w) = (a0_w - 1) then
  some (Ex.up (0, false))
  else
  some (Ex.go (a3_t + 1))
  else none
  else none) fun x => x.then fun v3 =>
  if 0 ≤ a3_t ∧ a3_t < (a2_free.length : Int) then
  if ((gi a2_free a3_t) = true) → (0 ≤ v3 ∧ v3 < (a2_free.length : Int)) then
  Option.bind (if ((gi a2_free a3_t) = true) ∧ ((gi a2_free v3) = true) then
  Option.bind (throngref10_Of a0_w a3_t) fun x14 =>
  Option.bind (throngref10_Of a0_w v3) fun x15 =>
  some (decide (¬ x14 = x15))
  else
  some false) fun b12 =>
  some (v3, b12)
  else none
  else none
  else none
def throngref10_with (a0_l : List Prt) (a1_p : Prt) : Option (List Prt) :=
  Option.bind (α := Int) (loop (σ := Int) (β := Int) (fun v217 =>
  if (v217 < (a0_l.length : Int)) → (0 ≤ v217 ∧ v217 < (a0_l.length : Int)) then
  if (v217 < (a0_l.length : Int)) → (¬ ((gi a0_l v217).a < a1_p.a) → (0 ≤ v217 ∧ v217 < (a0_l.length : Int))) then
  if (v217 < (a0_l.length : Int)) → (¬ ((gi a0_l v217).a < a1_p.a) → (((gi a0_l v217).a = a1_p.a) → (0 ≤ v217 ∧ v217 < (a0_l.length : Int)))) then
  if (v217 < (a0_l.length : Int)) ∧ (((gi a0_l v217).a < a1_p.a) ∨ (((gi a0_l v217).a = a1_p.a) ∧ ((gi a0_l v217).b < a1_p.b))) then
  if I64 (v217 + 1) then
  some (St.next (v217 + 1))
  else none
  else
  some (St.done v217)
  else none
  else none
  else none) 0) fun v3 =>
  Option.bind (α := List Prt) (if 0 ≤ v3 ∧ v3 ≤ (a0_l.length : Int) then
  Option.bind (throngref0_CopyPortals (a0_l.take v3.toNat)) fun x11 =>
  if x11.length < 1099511627776 then
  some (x11 ++ [a1_p])
  else none
  else none) fun v5 =>
  if 0 ≤ v3 ∧ v3 ≤ (a0_l.length : Int) then
  if v5.length + (a0_l.drop v3.toNat).length < 1099511627776 then
  some (v5 ++ (a0_l.drop v3.toNat))
  else none
  else none
def throngref10_Find (a0_w : Int) (a1_h : Int) (a2_free : List Bool) : Option (List Prt) :=
  Option.bind (α := List Prt) (loop (σ := List Prt × Int) (β := List Prt) (fun (l4, v6) =>
  if v6 < 2 then
  Option.bind (α := Int) (if v6 = 1 then
  some 1
  else
  some a0_w) fun v10 =>
  Option.bind (α := List Prt) (loop (σ := Int × List Prt) (β := List Prt) (fun (v15, l16) =>
  if I64 (a0_w * a1_h) then
  if v15 < (a0_w * a1_h) then
  Option.bind (α := List Prt) (Option.bind (throngref10_pair a0_w a1_h a2_free v15 (decide (v6 = 1))) fun x25 =>
  if (!x25.2) = true then
  some l16
  else
  if I64 (v15 - v10) then
  if (0 ≤ (v15 - v10)) → (¬ (¬ (v6 = 1)) → (0 ≤ v15 ∧ v15 ≤ 9223372036854775807 ∧ (1 : Int) ≤ a0_w)) then
  Option.bind (α := Ex (Unit) (List Prt)) (if (0 ≤ (v15 - v10)) ∧ ((¬ (v6 = 1)) ∨ (0 < (v15 % a0_w))) then
  if I64 (v15 - v10) then
  Option.bind (throngref10_pair a0_w a1_h a2_free (v15 - v10) (decide (v6 = 1))) fun x70 =>
  Option.bind (if x70.2 = true then
  if I64 (v15 - v10) then
  Option.bind (throngref10_Of a0_w (v15 - v10)) fun x83 =>
  Option.bind (throngref10_Of a0_w v15) fun x84 =>
  some (decide (x83 = x84))
  else none
  else
  some false) fun b73 =>
  Option.bind (if b73 = true then
  Option.bind (throngref10_Of a0_w x70.1) fun x79 =>
  Option.bind (throngref10_Of a0_w x25.1) fun x80 =>
  some (decide (x79 = x80))
  else
  some false) fun b76 =>
  if b76 = true then
  some (Ex.up l16)
  else
  some (Ex.go ())
  else none
  else
  some (Ex.go ())) fun x => x.then fun _ =>
  Option.bind (α := Int) (loop (σ := Int) (β := Int) (fun v41 =>
  if I64 (v41 * v10) then
  if I64 (v15 + (v41 * v10)) then
  if I64 (a0_w * a1_h) then
  if ¬ ((a0_w * a1_h) ≤ (v15 + (v41 * v10))) → ((v6 = 1) → (0 ≤ (v15 + (v41 * v10)) ∧ (v15 + (v41 * v10)) ≤ 9223372036854775807 ∧ (1 : Int) ≤ a0_w)) then
  if ¬ ((a0_w * a1_h) ≤ (v15 + (v41 * v10))) → ((v6 = 1) → (0 ≤ v15 ∧ v15 ≤ 9223372036854775807 ∧ (1 : Int) ≤ a0_w)) then
  if ((a0_w * a1_h) ≤ (v15 + (v41 * v10))) ∨ ((v6 = 1) ∧ (¬ ((v15 + (v41 * v10)) / a0_w) = (v15 / a0_w))) then
  some (St.done v41)
  else
  Option.bind (throngref10_pair a0_w a1_h a2_free (v15 + (v41 * v10)) (decide (v6 = 1))) fun x51 =>
  Option.bind (if (!x51.2) = true then
  some true
  else
  Option.bind (throngref10_Of a0_w (v15 + (v41 * v10))) fun x64 =>
  Option.bind (throngref10_Of a0_w v15) fun x65 =>
  some (decide (¬ x64 = x65))) fun b54 =>
  Option.bind (if b54 = true then
  some true
  else
  Option.bind (throngref10_Of a0_w x51.1) fun x61 =>
  Option.bind (throngref10_Of a0_w x25.1) fun x62 =>
  some (decide (¬ x61 = x62))) fun b57 =>
  if b57 = true then
  some (St.done v41)
  else
  if I64 (v41 + 1) then
  some (St.next (v41 + 1))
  else none
  else none
  else none
  else none
  else none
  else none) 1) fun v33 =>
  if I64 (v33 - 1) then
  if 0 ≤ (v33 - 1) ∧ (v33 - 1) ≤ 9223372036854775807 then
  if I64 (((v33 - 1) / 2) * v10) then
  if I64 (v15 + (((v33 - 1) / 2) * v10)) then
  if I64 (x25.1 + (((v33 - 1) / 2) * v10)) then
  Option.bind (throngref10_with l16 (⟨(v15 + (((v33 - 1) / 2) * v10)), (x25.1 + (((v33 - 1) / 2) * v10)), v33⟩ : Prt)) fun x39 =>
  some x39
  else none
  else none
  else none
  else none
  else none
  else none
  else none) fun v22 =>
  if I64 (v15 + 1) then
  some (St.next ((v15 + 1), v22))
  else none
  else
  some (St.done l16)
  else none) (0, l4)) fun v12 =>
  if I64 (v6 + 1) then
  some (St.next (v12, (v6 + 1)))
  else none
  else
  some (St.done l4)) ([], 0)) fun v2 =>
  some v2
end Go.Proofs.YthdbofgcckjopaaGreat
