/-
  What the statements of the peers call, as pure functions, more.
-/
import Derived.Test.YtlpmiledfcblfaaRows
import Derived.Test.YtlpmiledfcblfaaPG
import Derived.Test.YtlpmiledfcblfaaDD
import Derived.Test.YtlpmiledfcblfaaPO
set_option linter.unusedVariables false
set_option linter.unusedSimpArgs false
set_option maxRecDepth 20000
set_option maxHeartbeats 4000000
namespace Go.Proofs.Ytlpmiledfcblfaa
open Go.Vg
open Enc (R)
def peer_acked_1 (a0_i : Inp) (c0 : Int) : Option Bool :=
  some (decide (a0_i.turn ≤ c0))
def peer_acked (a0_p : Per) (a1_from : Int) (a2_have : Int) : Option Per :=
  if I64 (a1_from - 1) then
  if 0 ≤ (a1_from - 1) ∧ (a1_from - 1) < (a0_p.acked.length : Int) then
  if (a2_have ≤ (gi a0_p.acked (a1_from - 1))) ∨ (a0_p.said < a2_have) then
  some a0_p
  else
  if I64 (a1_from - 1) then
  if 0 ≤ (a1_from - 1) ∧ (a1_from - 1) < (a0_p.acked.length : Int) then
  Option.bind (slices_Min (si a0_p.acked (a1_from - 1) a2_have)) fun x15 =>
  Option.bind (slices_DeleteFuncI a0_p.mine (fun y0 => peer_acked_1 y0 x15)) fun x17 =>
  some (⟨a0_p.id, a0_p.players, a0_p.delay, a0_p.turn, a0_p.said, x17, a0_p.inputs, a0_p.has, (si a0_p.acked (a1_from - 1) a2_have), a0_p.hashes, a0_p.split⟩ : Per)
  else none
  else none
  else none
  else none
def peer_player (a0_n : Int) : Option Bool :=
  some (decide ((1 ≤ a0_n) ∧ (a0_n ≤ 8)))
def peer_turn (a0_n : Int) : Option Bool :=
  some (decide (((-1) ≤ a0_n) ∧ (a0_n ≤ 1099511627776)))
def peer_MayNote (a0_n : Nte) : Option Bool :=
  Option.bind (peer_player a0_n.frm) fun x2 =>
  Option.bind (if (!x2) = true then
  some true
  else
  Option.bind (peer_player a0_n.dst) fun x30 =>
  some (!x30)) fun b5 =>
  Option.bind (if (b5 = true) ∨ (a0_n.frm = a0_n.dst) then
  some true
  else
  Option.bind (peer_turn a0_n.don) fun x28 =>
  some (!x28)) fun b10 =>
  Option.bind (if b10 = true then
  some true
  else
  Option.bind (peer_turn a0_n.hav) fun x26 =>
  some (!x26)) fun b13 =>
  if (b13 = true) ∨ ((a0_n.don = (-1)) ∧ (¬ (a0_n.hash.toNat : Int) = 0)) then
  some false
  else
  if a0_n.input.turn = (-1) then
  some (decide ((a0_n.input.player = 0) ∧ ((a0_n.input.commands.length : Int) = 0)))
  else
  Option.bind (turns_May a0_n.input) fun x20 =>
  some (decide ((x20 = true) ∧ (a0_n.input.player = a0_n.frm)))
def peer_split (a0_p : Per) (a1_done : Int) (a2_hash : UInt64) : Option Bool :=
  if I64 (a0_p.turn - a1_done) then
  if I64 ((a0_p.hashes.length : Int) - (a0_p.turn - a1_done)) then
  if ((a1_done < a0_p.turn) ∧ (0 ≤ ((a0_p.hashes.length : Int) - (a0_p.turn - a1_done)))) → (0 ≤ ((a0_p.hashes.length : Int) - (a0_p.turn - a1_done)) ∧ ((a0_p.hashes.length : Int) - (a0_p.turn - a1_done)) < (a0_p.hashes.length : Int)) then
  some (decide (((a1_done < a0_p.turn) ∧ (0 ≤ ((a0_p.hashes.length : Int) - (a0_p.turn - a1_done)))) ∧ (¬ ((gi a0_p.hashes ((a0_p.hashes.length : Int) - (a0_p.turn - a1_done))).toNat : Int) = (a2_hash.toNat : Int))))
  else none
  else none
  else none
def peer_Take (a0_p : Per) (a1_n : Nte) : Option (Per × Int) :=
  Option.bind (peer_May a0_p) fun x4 =>
  Option.bind (if (!x4) = true then
  some true
  else
  Option.bind (peer_MayNote a1_n) fun x49 =>
  some (!x49)) fun b7 =>
  if ((b7 = true) ∨ (¬ a1_n.dst = a0_p.id)) ∨ (a0_p.players < a1_n.frm) then
  some ((⟨0, 0, 0, 0, 0, [], [], [], [], [], false⟩ : Per), 1)
  else
  if I64 (a0_p.turn + 16) then
  if (a0_p.turn + 16) < a1_n.input.turn then
  some ((⟨0, 0, 0, 0, 0, [], [], [], [], [], false⟩ : Per), 4)
  else
  Option.bind (peer_Own a0_p) fun x15 =>
  if I64 (a1_n.frm - 1) then
  if 0 ≤ (a1_n.frm - 1) ∧ (a1_n.frm - 1) < (x15.has.length : Int) then
  if I64 ((gi x15.has (a1_n.frm - 1)) + 1) then
  Option.bind (α := List Int × List Inp) (if a1_n.input.turn = ((gi x15.has (a1_n.frm - 1)) + 1) then
  Option.bind (turns_In x15.inputs a1_n.input) fun x42 =>
  if I64 (a1_n.frm - 1) then
  if 0 ≤ (a1_n.frm - 1) ∧ (a1_n.frm - 1) < (x15.has.length : Int) then
  if I64 ((gi x15.has (a1_n.frm - 1)) + 1) then
  if 0 ≤ (a1_n.frm - 1) ∧ (a1_n.frm - 1) < (x15.has.length : Int) then
  some ((si x15.has (a1_n.frm - 1) ((gi x15.has (a1_n.frm - 1)) + 1)), x42.1)
  else none
  else none
  else none
  else none
  else
  some (x15.has, x15.inputs)) fun (v27, v28) =>
  Option.bind (peer_acked (⟨x15.id, x15.players, x15.delay, x15.turn, x15.said, x15.mine, v28, v27, x15.acked, x15.hashes, x15.split⟩ : Per) a1_n.frm a1_n.hav) fun x30 =>
  Option.bind (if x30.split = true then
  some true
  else
  Option.bind (peer_split x30 a1_n.don a1_n.hash) fun x40 =>
  some x40) fun b38 =>
  some ((⟨x30.id, x30.players, x30.delay, x30.turn, x30.said, x30.mine, x30.inputs, x30.has, x30.acked, x30.hashes, b38⟩ : Per), 0)
  else none
  else none
  else none
  else none
end Go.Proofs.Ytlpmiledfcblfaa
