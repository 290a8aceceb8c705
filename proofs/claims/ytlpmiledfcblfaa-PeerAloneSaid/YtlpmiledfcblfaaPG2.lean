/-
  PeerAlone as a pure function.
-/
import Derived.Test.YtlpmiledfcblfaaRows
import Derived.Test.YtlpmiledfcblfaaPG
set_option linter.unusedVariables false
set_option linter.unusedSimpArgs false
set_option maxRecDepth 20000
set_option maxHeartbeats 4000000
namespace Go.Proofs.Ytlpmiledfcblfaa
open Go.Vg
open Enc (R)
def thronglaw28_PeerAlone (a0_q : Wld28) : Option Bool :=
  if 0 ≤ (a0_q.delay % 18446744073709551616) ∧ (1 : Int) ≤ 8 then
  if I64 ((a0_q.delay % 18446744073709551616) % 8) then
  if I64 (1 + ((a0_q.delay % 18446744073709551616) % 8)) then
  Option.bind (peer_New 1 1 (1 + ((a0_q.delay % 18446744073709551616) % 8))) fun x5 =>
  Option.bind (thronglaw28_num x5.2) fun x12 =>
  if ¬ x12 = 0 then
  some false
  else
  Option.bind (α := Ex (Int × Int × Int × Int × Int × Bool × List Inp × List Inp × List Int × List Int × List UInt64) (Bool)) (loop (σ := Int × Int × Int × Int × Int × Int × Bool × List Inp × List Inp × List Int × List Int × List UInt64) (β := Ex (Int × Int × Int × Int × Int × Bool × List Inp × List Inp × List Int × List Int × List UInt64) (Bool)) (fun (v33, v34, v35, v36, v37, v38, v39, l40, l42, l44, l46, l48) =>
  if v33 < 30 then
  Option.bind (peer_Say (⟨v34, v35, v36, v37, v38, l40, l42, l44, l46, l48, v39⟩ : Per) ([(⟨1, v33, 5, 7, [], 0, 0, 0, (⟨0, 0⟩ : Vec)⟩ : Cmd)] : List Cmd)) fun x54 =>
  Option.bind (if (1 + ((a0_q.delay % 18446744073709551616) % 8)) ≤ v33 then
  Option.bind (thronglaw28_num x54.2) fun x137 =>
  some (decide (¬ x137 = 0))
  else
  some false) fun b63 =>
  Option.bind (if b63 = true then
  some true
  else
  Option.bind (if v33 < (1 + ((a0_q.delay % 18446744073709551616) % 8)) then
  Option.bind (thronglaw28_num x54.2) fun x135 =>
  some (decide (¬ x135 = 0))
  else
  some false) fun b128 =>
  Option.bind (if b128 = true then
  Option.bind (thronglaw28_num x54.2) fun x133 =>
  some (decide (¬ x133 = 10))
  else
  some false) fun b131 =>
  some b131) fun b66 =>
  if b66 = true then
  some (St.done (Ex.up false))
  else
  Option.bind (thronglaw28_num x54.2) fun x68 =>
  Option.bind (α := Int × Int × Int × Int × Int × Bool × List Inp × List Inp × List Int × List Int × List UInt64) (if x68 = 0 then
  some (x54.1.id, x54.1.players, x54.1.delay, x54.1.turn, x54.1.said, x54.1.split, x54.1.mine, x54.1.inputs, x54.1.has, x54.1.acked, x54.1.hashes)
  else
  some (v34, v35, v36, v37, v38, v39, l40, l42, l44, l46, l48)) fun (v70, v71, v72, v73, v74, v75, v76, v78, v80, v82, v84) =>
  Option.bind (peer_Ready (⟨v70, v71, v72, v73, v74, v76, v78, v80, v82, v84, v75⟩ : Per)) fun x87 =>
  Option.bind (thronglaw28_num x87.2.2) fun x89 =>
  if ((¬ x89 = 0) ∨ ((!x87.2.1) = true)) ∨ ((v33 < (1 + ((a0_q.delay % 18446744073709551616) % 8))) ∧ (¬ (x87.1.length : Int) = 0)) then
  some (St.done (Ex.up false))
  else
  Option.bind (peer_Ran (⟨v70, v71, v72, v73, v74, v76, v78, v80, v82, v84, v75⟩ : Per) (UInt64.ofNat (v33 % 18446744073709551616).toNat)) fun x95 =>
  Option.bind (peer_Notes x95.1) fun x104 =>
  Option.bind (thronglaw28_num x95.2) fun x106 =>
  Option.bind (if ¬ x106 = 0 then
  some true
  else
  Option.bind (thronglaw28_num x104.2) fun x121 =>
  some (decide (¬ x121 = 0))) fun b109 =>
  if ¬ ((b109 = true) ∨ (¬ (x104.1.length : Int) = 0)) → (I64 (v33 + 1)) then
  if ¬ (((b109 = true) ∨ (¬ (x104.1.length : Int) = 0)) ∨ (¬ x95.1.turn = (v33 + 1))) → (I64 (v33 + 1)) then
  if (((b109 = true) ∨ (¬ (x104.1.length : Int) = 0)) ∨ (¬ x95.1.turn = (v33 + 1))) ∨ (¬ (x95.1.hashes.length : Int) = (min (v33 + 1) 16)) then
  some (St.done (Ex.up false))
  else
  if I64 (v33 + 1) then
  some (St.next ((v33 + 1), x95.1.id, x95.1.players, x95.1.delay, x95.1.turn, x95.1.said, x95.1.split, x95.1.mine, x95.1.inputs, x95.1.has, x95.1.acked, x95.1.hashes))
  else none
  else none
  else none
  else
  some (St.done (Ex.go (v34, v35, v36, v37, v38, v39, l40, l42, l44, l46, l48)))) (0, x5.1.id, x5.1.players, x5.1.delay, x5.1.turn, x5.1.said, x5.1.split, x5.1.mine, x5.1.inputs, x5.1.has, x5.1.acked, x5.1.hashes)) fun x => x.then fun (v15, v16, v17, v18, v19, v20, v21, v23, v25, v27, v29) =>
  Option.bind (thronglaw28_wakes) fun x32 =>
  some x32
  else none
  else none
  else none
end Go.Proofs.Ytlpmiledfcblfaa
