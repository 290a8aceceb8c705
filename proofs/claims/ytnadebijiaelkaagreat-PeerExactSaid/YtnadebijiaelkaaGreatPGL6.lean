/-
  PeerExact as a pure function.
-/
import Derived.Test.YtnadebijiaelkaaGreatRows
import Derived.Test.YtnadebijiaelkaaGreatW5
set_option linter.unusedVariables false
set_option linter.unusedSimpArgs false
set_option maxRecDepth 20000
set_option maxHeartbeats 4000000
namespace Go.Proofs.YtnadebijiaelkaaGreat
open Go.Vg
open Enc (R)
def thronglaw28_PeerExact (a0_p : Scr28) : Option Bool :=
  Option.bind (thronglaw28_heavy a0_p) fun x2 =>
  if x2 = true then
  some true
  else
  Option.bind (throngref0_CopyPeer a0_p.p) fun x4 =>
  Option.bind (throngref27_Peer x4) fun x11 =>
  Option.bind (α := Int) (if x11 = true then
  some 0
  else
  some 1) fun v13 =>
  Option.bind (peer_Check x4) fun x14 =>
  Option.bind (thronglaw28_num x14) fun x15 =>
  if ¬ x15 = v13 then
  some false
  else
  Option.bind (α := Ex (Int × Int × Int × Int × Int × Bool × List Inp × List Inp × List Int × List Int × List UInt64) (Bool)) (loop (σ := Int × Int × Int × Int × Int × Int × Bool × List Inp × List Inp × List Int × List Int × List UInt64) (β := Ex (Int × Int × Int × Int × Int × Bool × List Inp × List Inp × List Int × List Int × List UInt64) (Bool)) (fun (v35, v36, v37, v38, v39, v40, v41, l42, l44, l46, l48, l50) =>
  if (v35 < (a0_p.l.length : Int)) ∧ (v35 < 12) then
  Option.bind (α := Int × Int × Int × Int × Int × Bool × Bool × List Inp × List Inp × List Int × List Int × List UInt64) (if 0 ≤ v35 ∧ v35 < (a0_p.l.length : Int) then
  Option.bind (thronglaw28_step (⟨v36, v37, v38, v39, v40, l42, l44, l46, l48, l50, v41⟩ : Per) (gi a0_p.l v35)) fun x111 =>
  some (x111.1.id, x111.1.players, x111.1.delay, x111.1.turn, x111.1.said, x111.1.split, x111.2, x111.1.mine, x111.1.inputs, x111.1.has, x111.1.acked, x111.1.hashes)
  else none) fun (v69, v70, v71, v72, v73, v74, v75, v76, v79, v82, v85, v88) =>
  if (!v75) = true then
  some (St.done (Ex.up false))
  else
  Option.bind (throngref0_CopyPeer (⟨v69, v70, v71, v72, v73, v76, v79, v82, v85, v88, v74⟩ : Per)) fun x92 =>
  if I64 (v35 + 1) then
  some (St.next ((v35 + 1), x92.id, x92.players, x92.delay, x92.turn, x92.said, x92.split, x92.mine, x92.inputs, x92.has, x92.acked, x92.hashes))
  else none
  else
  some (St.done (Ex.go (v36, v37, v38, v39, v40, v41, l42, l44, l46, l48, l50)))) (0, x4.id, x4.players, x4.delay, x4.turn, x4.said, x4.split, x4.mine, x4.inputs, x4.has, x4.acked, x4.hashes)) fun x => x.then fun (v18, v19, v20, v21, v22, v23, v24, v26, v28, v30, v32) =>
  Option.bind (thronglaw28_wakes) fun x34 =>
  some x34
end Go.Proofs.YtnadebijiaelkaaGreat
