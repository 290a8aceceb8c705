/-
  PeerSplits as a pure function.
-/
import Derived.Test.YtlpmiledfcblfaaRows
import Derived.Test.YtlpmiledfcblfaaPG3
set_option linter.unusedVariables false
set_option linter.unusedSimpArgs false
set_option maxRecDepth 20000
set_option maxHeartbeats 4000000
namespace Go.Proofs.Ytlpmiledfcblfaa
open Go.Vg
open Enc (R)
def thronglaw28_PeerSplits (a0_q : Wld28) : Option Bool :=
  Option.bind (peer_New 1 2 8) fun x2 =>
  Option.bind (thronglaw28_num x2.2) fun x9 =>
  if ¬ x9 = 0 then
  some false
  else
  Option.bind (α := Ex (Int × Int × Int × Int × Int × Bool × List Inp × List Inp × List Int × List Int × List UInt64) (Bool)) (loop (σ := Int × Int × Int × Int × Int × Int × Bool × List Inp × List Inp × List Int × List Int × List UInt64) (β := Ex (Int × Int × Int × Int × Int × Bool × List Inp × List Inp × List Int × List Int × List UInt64) (Bool)) (fun (v65, v66, v67, v68, v69, v70, v71, l72, l74, l76, l78, l80) =>
  if v65 < 8 then
  if I64 (100 + v65) then
  Option.bind (peer_Ran (⟨v66, v67, v68, v69, v70, l72, l74, l76, l78, l80, v71⟩ : Per) (UInt64.ofNat ((100 + v65) % 18446744073709551616).toNat)) fun x86 =>
  Option.bind (thronglaw28_num x86.2) fun x95 =>
  if ¬ x95 = 0 then
  some (St.done (Ex.up false))
  else
  if I64 (v65 + 1) then
  some (St.next ((v65 + 1), x86.1.id, x86.1.players, x86.1.delay, x86.1.turn, x86.1.said, x86.1.split, x86.1.mine, x86.1.inputs, x86.1.has, x86.1.acked, x86.1.hashes))
  else none
  else none
  else
  some (St.done (Ex.go (v66, v67, v68, v69, v70, v71, l72, l74, l76, l78, l80)))) (0, x2.1.id, x2.1.players, x2.1.delay, x2.1.turn, x2.1.said, x2.1.split, x2.1.mine, x2.1.inputs, x2.1.has, x2.1.acked, x2.1.hashes)) fun x => x.then fun (v12, v13, v14, v15, v16, v17, v18, v20, v22, v24, v26) =>
  Option.bind (α := Ex (Unit) (Bool)) (loop (σ := Int) (β := Ex (Unit) (Bool)) (fun v35 =>
  if v35 ≤ 10 then
  Option.bind (α := Ex (Unit) (St (Int) (Ex (Unit) (Bool)))) (loop (σ := Int) (β := Ex (Unit) (St (Int) (Ex (Unit) (Bool)))) (fun v40 =>
  if v40 < 2 then
  if I64 (100 + v35) then
  if I64 ((100 + v35) + v40) then
  Option.bind (α := UInt64) (if v35 = (-1) then
  some (0 : UInt64)
  else
  some (UInt64.ofNat (((100 + v35) + v40) % 18446744073709551616).toNat)) fun v47 =>
  Option.bind (peer_Take (⟨v12, v13, v14, v15, v16, v18, v20, v22, v24, v26, v17⟩ : Per) (⟨2, 1, (⟨(-1), 0, []⟩ : Inp), v35, v47, (-1)⟩ : Nte)) fun x48 =>
  Option.bind (thronglaw28_num x48.2) fun x55 =>
  if (¬ x55 = 0) ∨ (¬ x48.1.split = (decide (((v40 = 1) ∧ (0 ≤ v35)) ∧ (v35 < 8)))) then
  some (St.done (Ex.up (St.done (Ex.up false))))
  else
  if I64 (v40 + 1) then
  some (St.next (v40 + 1))
  else none
  else none
  else none
  else
  some (St.done (Ex.go ()))) 0) fun x => x.then fun _ =>
  if I64 (v35 + 1) then
  some (St.next (v35 + 1))
  else none
  else
  some (St.done (Ex.go ()))) (-1)) fun x => x.then fun _ =>
  Option.bind (if 0 ≤ (a0_q.l.length : Int) then
  Option.bind (thronglaw28_wakes) fun x34 =>
  some x34
  else
  some false) fun b32 =>
  some b32
end Go.Proofs.Ytlpmiledfcblfaa
