/-
  PeerNews as a pure function.
-/
import Derived.Test.YtlpmiledfcblfaaRows
import Derived.Test.YtlpmiledfcblfaaPG
set_option linter.unusedVariables false
set_option linter.unusedSimpArgs false
set_option maxRecDepth 20000
set_option maxHeartbeats 4000000
namespace Go.Proofs.Ytlpmiledfcblfaa
open Go.Vg
open Enc (R)
def thronglaw28_PeerNews (a0_l : List Pr3) : Option Bool :=
  Option.bind (α := Ex (Unit) (Bool)) (loop (σ := Int) (β := Ex (Unit) (Bool)) (fun v3 =>
  if (v3 < (a0_l.length : Int)) ∧ (v3 < 40) then
  if 0 ≤ v3 ∧ v3 < (a0_l.length : Int) then
  if 0 ≤ v3 ∧ v3 < (a0_l.length : Int) then
  if 0 ≤ v3 ∧ v3 < (a0_l.length : Int) then
  Option.bind (α := Int × Int × Int × Int × Int × Int × Bool × List Inp × List Inp × List Int × List Int × List UInt64) (if (((((1 ≤ (gi a0_l v3).b) ∧ ((gi a0_l v3).b ≤ 8)) ∧ (1 ≤ (gi a0_l v3).a)) ∧ ((gi a0_l v3).a ≤ (gi a0_l v3).b)) ∧ (1 ≤ (gi a0_l v3).c)) ∧ ((gi a0_l v3).c ≤ 8) then
  Option.bind (throngref27_New ((gi a0_l v3).a) ((gi a0_l v3).b) ((gi a0_l v3).c)) fun x58 =>
  some (0, x58.id, x58.players, x58.delay, x58.turn, x58.said, x58.split, x58.mine, x58.inputs, x58.has, x58.acked, x58.hashes)
  else
  some (1, 0, 0, 0, 0, 0, false, [], [], [], [], [])) fun (v25, v26, v27, v28, v29, v30, v31, v32, v34, v36, v38, v40) =>
  Option.bind (peer_New ((gi a0_l v3).a) ((gi a0_l v3).b) ((gi a0_l v3).c)) fun x42 =>
  Option.bind (thronglaw28_num x42.2) fun x49 =>
  Option.bind (if ¬ x49 = v25 then
  some true
  else
  Option.bind (throngref0_EqPeer x42.1 (⟨v26, v27, v28, v29, v30, v32, v34, v36, v38, v40, v31⟩ : Per)) fun x56 =>
  some (!x56)) fun b52 =>
  if b52 = true then
  some (St.done (Ex.up false))
  else
  if I64 (v3 + 1) then
  some (St.next (v3 + 1))
  else none
  else none
  else none
  else none
  else
  some (St.done (Ex.go ()))) 0) fun x => x.then fun _ =>
  Option.bind (thronglaw28_wakes) fun x2 =>
  some x2
end Go.Proofs.Ytlpmiledfcblfaa
