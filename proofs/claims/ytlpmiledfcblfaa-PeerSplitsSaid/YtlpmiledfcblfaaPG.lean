/-
  What the statements of the peers call, as pure functions.
-/
import Derived.Test.YtlpmiledfcblfaaRows
import Derived.Test.YtlpmiledfcblfaaTG
import Derived.Test.YtlpmiledfcblfaaV2
set_option linter.unusedVariables false
set_option linter.unusedSimpArgs false
set_option maxRecDepth 20000
set_option maxHeartbeats 4000000
namespace Go.Proofs.Ytlpmiledfcblfaa
open Go.Vg
open Enc (R)
def slices_Min (a0_x : List Int) : Option Int :=
  Option.bind (α := Unit) (if (a0_x.length : Int) < 1 then
  none
  else
  some ()) fun _ =>
  if 0 ≤ (0 : Int) ∧ (0 : Int) < (a0_x.length : Int) then
  Option.bind (α := Int) (loop (σ := Int × Int) (β := Int) (fun (v7, v8) =>
  if v8 < (a0_x.length : Int) then
  if 0 ≤ v8 ∧ v8 < (a0_x.length : Int) then
  if I64 (v8 + 1) then
  some (St.next ((min v7 (gi a0_x v8)), (v8 + 1)))
  else none
  else none
  else
  some (St.done v7)) ((gi a0_x (0 : Int)), 1)) fun v6 =>
  some v6
  else none
def slices_Max (a0_x : List Int) : Option Int :=
  Option.bind (α := Unit) (if (a0_x.length : Int) < 1 then
  none
  else
  some ()) fun _ =>
  if 0 ≤ (0 : Int) ∧ (0 : Int) < (a0_x.length : Int) then
  Option.bind (α := Int) (loop (σ := Int × Int) (β := Int) (fun (v7, v8) =>
  if v8 < (a0_x.length : Int) then
  if 0 ≤ v8 ∧ v8 < (a0_x.length : Int) then
  if I64 (v8 + 1) then
  some (St.next ((max v7 (gi a0_x v8)), (v8 + 1)))
  else none
  else none
  else
  some (St.done v7)) ((gi a0_x (0 : Int)), 1)) fun v6 =>
  some v6
  else none
def throngref0_EqHashes (a0_a : List UInt64) (a1_b : List UInt64) : Option Bool :=
  if ¬ (a0_a.length : Int) = (a1_b.length : Int) then
  some false
  else
  Option.bind (α := Ex (Unit) (Bool)) (loop (σ := Int) (β := Ex (Unit) (Bool)) (fun v3 =>
  if v3 < (a0_a.length : Int) then
  if 0 ≤ v3 ∧ v3 < (a0_a.length : Int) then
  if 0 ≤ v3 ∧ v3 < (a1_b.length : Int) then
  if ¬ ((gi a0_a v3).toNat : Int) = ((gi a1_b v3).toNat : Int) then
  some (St.done (Ex.up false))
  else
  if I64 (v3 + 1) then
  some (St.next (v3 + 1))
  else none
  else none
  else none
  else
  some (St.done (Ex.go ()))) 0) fun x => x.then fun _ =>
  some true
def throngref0_EqPeer (a0_a : Per) (a1_b : Per) : Option Bool :=
  Option.bind (if ((((a0_a.id = a1_b.id) ∧ (a0_a.players = a1_b.players)) ∧ (a0_a.delay = a1_b.delay)) ∧ (a0_a.turn = a1_b.turn)) ∧ (a0_a.said = a1_b.said) then
  Option.bind (throngref0_EqInputs a0_a.mine a1_b.mine) fun x37 =>
  some x37
  else
  some false) fun b13 =>
  Option.bind (if b13 = true then
  Option.bind (throngref0_EqInputs a0_a.inputs a1_b.inputs) fun x35 =>
  some x35
  else
  some false) fun b16 =>
  Option.bind (if b16 = true then
  Option.bind (throngref0_EqNumbers a0_a.has a1_b.has) fun x33 =>
  some x33
  else
  some false) fun b19 =>
  Option.bind (if b19 = true then
  Option.bind (throngref0_EqNumbers a0_a.acked a1_b.acked) fun x31 =>
  some x31
  else
  some false) fun b22 =>
  Option.bind (if b22 = true then
  Option.bind (throngref0_EqHashes a0_a.hashes a1_b.hashes) fun x29 =>
  some x29
  else
  some false) fun b25 =>
  some (decide ((b25 = true) ∧ (a0_a.split = a1_b.split)))
def peer_counts (a0_p : Per) (a1_l : List Int) : Option Bool :=
  Option.bind (α := Ex (Unit) (Bool)) (loop (σ := Int) (β := Ex (Unit) (Bool)) (fun v9 =>
  if v9 < (a1_l.length : Int) then
  if 0 ≤ v9 ∧ v9 < (a1_l.length : Int) then
  if I64 (a0_p.delay - 1) then
  if ¬ ((gi a1_l v9) < (a0_p.delay - 1)) → (I64 (a0_p.turn + 16)) then
  if (((gi a1_l v9) < (a0_p.delay - 1)) ∨ ((a0_p.turn + 16) < (gi a1_l v9))) ∨ (1099511627776 < (gi a1_l v9)) then
  some (St.done (Ex.up false))
  else
  if I64 (v9 + 1) then
  some (St.next (v9 + 1))
  else none
  else none
  else none
  else none
  else
  some (St.done (Ex.go ()))) 0) fun x => x.then fun _ =>
  if ((a1_l.length : Int) = a0_p.players) → (I64 (a0_p.id - 1)) then
  if ((a1_l.length : Int) = a0_p.players) → (0 ≤ (a0_p.id - 1) ∧ (a0_p.id - 1) < (a1_l.length : Int)) then
  some (decide (((a1_l.length : Int) = a0_p.players) ∧ ((gi a1_l (a0_p.id - 1)) = a0_p.said)))
  else none
  else none
def peer_mine (a0_p : Per) : Option Bool :=
  Option.bind (slices_Min a0_p.acked) fun x2 =>
  if I64 (a0_p.said - x2) then
  if ¬ (a0_p.mine.length : Int) = (a0_p.said - x2) then
  some false
  else
  Option.bind (α := Ex (Unit) (Bool)) (loop (σ := Int) (β := Ex (Unit) (Bool)) (fun v6 =>
  if v6 < (a0_p.mine.length : Int) then
  if 0 ≤ v6 ∧ v6 < (a0_p.mine.length : Int) then
  Option.bind (turns_May (gi a0_p.mine v6)) fun x19 =>
  if ¬ (((!x19) = true) ∨ (¬ (gi a0_p.mine v6).player = a0_p.id)) → (I64 (a0_p.said - (a0_p.mine.length : Int))) then
  if ¬ (((!x19) = true) ∨ (¬ (gi a0_p.mine v6).player = a0_p.id)) → (I64 ((a0_p.said - (a0_p.mine.length : Int)) + 1)) then
  if ¬ (((!x19) = true) ∨ (¬ (gi a0_p.mine v6).player = a0_p.id)) → (I64 (((a0_p.said - (a0_p.mine.length : Int)) + 1) + v6)) then
  if (((!x19) = true) ∨ (¬ (gi a0_p.mine v6).player = a0_p.id)) ∨ (¬ (gi a0_p.mine v6).turn = (((a0_p.said - (a0_p.mine.length : Int)) + 1) + v6)) then
  some (St.done (Ex.up false))
  else
  if I64 (v6 + 1) then
  some (St.next (v6 + 1))
  else none
  else none
  else none
  else none
  else none
  else
  some (St.done (Ex.go ()))) 0) fun x => x.then fun _ =>
  some true
  else none
def peer_inputs (a0_p : Per) : Option Bool :=
  Option.bind (α := Ex (Unit) (Bool)) (loop (σ := Int) (β := Ex (Unit) (Bool)) (fun v3 =>
  if v3 < (a0_p.inputs.length : Int) then
  if 0 ≤ v3 ∧ v3 < (a0_p.inputs.length : Int) then
  if ¬ (((gi a0_p.inputs v3).turn < a0_p.turn) ∨ (a0_p.players < (gi a0_p.inputs v3).player)) → (I64 (((gi a0_p.inputs v3).player) - 1)) then
  if ¬ (((gi a0_p.inputs v3).turn < a0_p.turn) ∨ (a0_p.players < (gi a0_p.inputs v3).player)) → (0 ≤ (((gi a0_p.inputs v3).player) - 1) ∧ (((gi a0_p.inputs v3).player) - 1) < (a0_p.has.length : Int)) then
  if (((gi a0_p.inputs v3).turn < a0_p.turn) ∨ (a0_p.players < (gi a0_p.inputs v3).player)) ∨ ((gi a0_p.has (((gi a0_p.inputs v3).player) - 1)) < (gi a0_p.inputs v3).turn) then
  some (St.done (Ex.up false))
  else
  if I64 (v3 + 1) then
  some (St.next (v3 + 1))
  else none
  else none
  else none
  else none
  else
  some (St.done (Ex.go ()))) 0) fun x => x.then fun _ =>
  some true
def peer_May (a0_p : Per) : Option Bool :=
  if (((((((a0_p.players < 1) ∨ (8 < a0_p.players)) ∨ (a0_p.id < 1)) ∨ (a0_p.players < a0_p.id)) ∨ (a0_p.delay < 1)) ∨ (8 < a0_p.delay)) ∨ (a0_p.turn < 0)) ∨ (1099511627776 < a0_p.turn) then
  some false
  else
  if I64 (a0_p.delay - 1) then
  if ¬ (a0_p.said < (a0_p.delay - 1)) → (I64 (a0_p.turn + a0_p.delay)) then
  if ¬ (a0_p.said < (a0_p.delay - 1)) → (I64 ((a0_p.turn + a0_p.delay) - 1)) then
  Option.bind (if ((a0_p.said < (a0_p.delay - 1)) ∨ (((a0_p.turn + a0_p.delay) - 1) < a0_p.said)) ∨ (1099511627776 < a0_p.said) then
  some true
  else
  Option.bind (peer_counts a0_p a0_p.has) fun x57 =>
  some (!x57)) fun b26 =>
  Option.bind (if b26 = true then
  some true
  else
  Option.bind (peer_counts a0_p a0_p.acked) fun x55 =>
  some (!x55)) fun b29 =>
  if b29 = true then
  some false
  else
  Option.bind (slices_Min a0_p.has) fun x31 =>
  if I64 (a0_p.turn - 1) then
  Option.bind (if x31 < (a0_p.turn - 1) then
  some true
  else
  Option.bind (slices_Max a0_p.acked) fun x53 =>
  some (decide (a0_p.said < x53))) fun b35 =>
  if ((b35 = true) ∨ (16 < (a0_p.hashes.length : Int))) ∨ (a0_p.turn < (a0_p.hashes.length : Int)) then
  some false
  else
  Option.bind (peer_mine a0_p) fun x41 =>
  Option.bind (if x41 = true then
  Option.bind (turns_Rising a0_p.inputs) fun x51 =>
  some x51
  else
  some false) fun b44 =>
  Option.bind (if b44 = true then
  Option.bind (peer_inputs a0_p) fun x49 =>
  some x49
  else
  some false) fun b47 =>
  some b47
  else none
  else none
  else none
  else none
def peer_Own (a0_p : Per) : Option Per :=
  Option.bind (turns_OwnAll a0_p.mine) fun x3 =>
  Option.bind (turns_OwnAll a0_p.inputs) fun x5 =>
  Option.bind (slices_Clone_Int a0_p.has) fun x7 =>
  Option.bind (slices_Clone_Int a0_p.acked) fun x9 =>
  Option.bind (slices_Clone_U64 a0_p.hashes) fun x11 =>
  some (⟨a0_p.id, a0_p.players, a0_p.delay, a0_p.turn, a0_p.said, x3, x5, x7, x9, x11, a0_p.split⟩ : Per)
def peer_New (a0_id : Int) (a1_players : Int) (a2_delay : Int) : Option (Per × Int) :=
  if (1 ≤ a1_players) ∧ (a1_players ≤ 8) then
  Option.bind (slices_Repeat_Int [(w64 (a2_delay - 1))] a1_players) fun x7 =>
  Option.bind (slices_Repeat_Int [(w64 (a2_delay - 1))] a1_players) fun x10 =>
  Option.bind (peer_May (⟨a0_id, a1_players, a2_delay, 0, (w64 (a2_delay - 1)), [], [], x7, x10, [], false⟩ : Per)) fun x12 =>
  if (!x12) = true then
  some ((⟨0, 0, 0, 0, 0, [], [], [], [], [], false⟩ : Per), 1)
  else
  some ((⟨a0_id, a1_players, a2_delay, 0, (w64 (a2_delay - 1)), [], [], x7, x10, [], false⟩ : Per), 0)
  else
  Option.bind (peer_May (⟨a0_id, a1_players, a2_delay, 0, (w64 (a2_delay - 1)), [], [], [], [], [], false⟩ : Per)) fun x14 =>
  if (!x14) = true then
  some ((⟨0, 0, 0, 0, 0, [], [], [], [], [], false⟩ : Per), 1)
  else
  some ((⟨a0_id, a1_players, a2_delay, 0, (w64 (a2_delay - 1)), [], [], [], [], [], false⟩ : Per), 0)
def peer_can (a0_p : Per) : Option Bool :=
  Option.bind (slices_Min a0_p.has) fun x2 =>
  some (decide ((a0_p.turn ≤ x2) ∧ (a0_p.turn < 1099511627776)))
def peer_Ready (a0_p : Per) : Option (List Cmd × Bool × Int) :=
  Option.bind (peer_May a0_p) fun x2 =>
  if (!x2) = true then
  some ([], false, 1)
  else
  Option.bind (peer_can a0_p) fun x4 =>
  if (!x4) = true then
  some ([], false, 0)
  else
  Option.bind (turns_Part a0_p.inputs a0_p.turn) fun x6 =>
  Option.bind (turns_All x6.1) fun x9 =>
  some (x9, true, 0)
def peer_Ran (a0_p : Per) (a1_h : UInt64) : Option (Per × Int) :=
  Option.bind (peer_May a0_p) fun x3 =>
  if (!x3) = true then
  some ((⟨0, 0, 0, 0, 0, [], [], [], [], [], false⟩ : Per), 1)
  else
  Option.bind (peer_can a0_p) fun x5 =>
  if (!x5) = true then
  some ((⟨0, 0, 0, 0, 0, [], [], [], [], [], false⟩ : Per), 10)
  else
  Option.bind (peer_Own a0_p) fun x7 =>
  Option.bind (turns_Part x7.inputs x7.turn) fun x13 =>
  if I64 (x7.turn + 1) then
  if x7.hashes.length < 1099511627776 then
  if 16 < ((x7.hashes ++ [a1_h]).length : Int) then
  if 0 ≤ (1 : Int) ∧ (1 : Int) ≤ ((x7.hashes ++ [a1_h]).length : Int) then
  some ((⟨x7.id, x7.players, x7.delay, (x7.turn + 1), x7.said, x7.mine, x13.2, x7.has, x7.acked, ((x7.hashes ++ [a1_h]).drop (1 : Int).toNat), x7.split⟩ : Per), 0)
  else none
  else
  some ((⟨x7.id, x7.players, x7.delay, (x7.turn + 1), x7.said, x7.mine, x13.2, x7.has, x7.acked, (x7.hashes ++ [a1_h]), x7.split⟩ : Per), 0)
  else none
  else none
def peer_Say (a0_p : Per) (a1_l : List Cmd) : Option (Per × Int) :=
  Option.bind (peer_May a0_p) fun x3 =>
  if (!x3) = true then
  some ((⟨0, 0, 0, 0, 0, [], [], [], [], [], false⟩ : Per), 1)
  else
  if I64 (a0_p.turn + a0_p.delay) then
  if I64 ((a0_p.turn + a0_p.delay) - 1) then
  if (a0_p.said = ((a0_p.turn + a0_p.delay) - 1)) ∨ (a0_p.said = 1099511627776) then
  some ((⟨0, 0, 0, 0, 0, [], [], [], [], [], false⟩ : Per), 10)
  else
  Option.bind (turns_Said a0_p.id a1_l) fun x10 =>
  if (!x10) = true then
  some ((⟨0, 0, 0, 0, 0, [], [], [], [], [], false⟩ : Per), 1)
  else
  Option.bind (peer_Own a0_p) fun x12 =>
  if I64 (x12.said + 1) then
  Option.bind (turns_In x12.inputs (⟨(x12.said + 1), x12.id, a1_l⟩ : Inp)) fun x20 =>
  Option.bind (α := List Inp) (if 1 < x12.players then
  Option.bind (turns_Own (⟨(x12.said + 1), x12.id, a1_l⟩ : Inp)) fun x34 =>
  if x12.mine.length + 1 < 1099511627776 then
  some (x12.mine ++ ([x34] : List Inp))
  else none
  else
  some x12.mine) fun v23 =>
  if I64 (x12.id - 1) then
  if I64 (x12.id - 1) then
  if 0 ≤ (x12.id - 1) ∧ (x12.id - 1) < (x12.has.length : Int) then
  if 0 ≤ (x12.id - 1) ∧ (x12.id - 1) < (x12.acked.length : Int) then
  some ((⟨x12.id, x12.players, x12.delay, x12.turn, (x12.said + 1), v23, x20.1, (si x12.has (x12.id - 1) (x12.said + 1)), (si x12.acked (x12.id - 1) (x12.said + 1)), x12.hashes, x12.split⟩ : Per), 0)
  else none
  else none
  else none
  else none
  else none
  else none
  else none
def slices_IndexFunc (a0_s : List Inp) (a1_f : Inp → Option Bool) : Option Int :=
  Option.bind (α := Ex (Unit) (Int)) (loop (σ := Int) (β := Ex (Unit) (Int)) (fun v2 =>
  if v2 < (a0_s.length : Int) then
  if 0 ≤ v2 ∧ v2 < (a0_s.length : Int) then
  Option.bind (a1_f (gi a0_s v2)) fun x14 =>
  if x14 = true then
  some (St.done (Ex.up v2))
  else
  if I64 (v2 + 1) then
  some (St.next (v2 + 1))
  else none
  else none
  else
  some (St.done (Ex.go ()))) 0) fun x => x.then fun _ =>
  some (-1)
def peer_Notes_1 (a0_i : Inp) (c0 : Per) (c1 : Int) : Option Bool :=
  if I64 (c1 - 1) then
  if 0 ≤ (c1 - 1) ∧ (c1 - 1) < (c0.acked.length : Int) then
  if I64 ((gi c0.acked (c1 - 1)) + 1) then
  some (decide (a0_i.turn = ((gi c0.acked (c1 - 1)) + 1)))
  else none
  else none
  else none
def peer_Notes (a0_p : Per) : Option (List Nte × Int) :=
  Option.bind (peer_May a0_p) fun x2 =>
  if (!x2) = true then
  some ([], 1)
  else
  Option.bind (α := Int × List Nte) (loop (σ := List Nte × Int) (β := Int × List Nte) (fun (l10, v12) =>
  if v12 ≤ a0_p.players then
  if v12 = a0_p.id then
  if I64 (v12 + 1) then
  some (St.next (l10, (v12 + 1)))
  else none
  else
  if I64 (v12 - 1) then
  if 0 ≤ (v12 - 1) ∧ (v12 - 1) < (a0_p.has.length : Int) then
  Option.bind (α := Int × UInt64) (if 0 < (a0_p.hashes.length : Int) then
  if I64 (a0_p.turn - 1) then
  if I64 ((a0_p.hashes.length : Int) - 1) then
  if 0 ≤ ((a0_p.hashes.length : Int) - 1) ∧ ((a0_p.hashes.length : Int) - 1) < (a0_p.hashes.length : Int) then
  some ((a0_p.turn - 1), (gi a0_p.hashes ((a0_p.hashes.length : Int) - 1)))
  else none
  else none
  else none
  else
  some ((-1), (0 : UInt64))) fun (v25, v26) =>
  Option.bind (slices_IndexFunc a0_p.mine (fun y0 => peer_Notes_1 y0 a0_p v12)) fun x27 =>
  Option.bind (α := Int × Int × List Cmd) (if 0 ≤ x27 then
  if 0 ≤ x27 ∧ x27 < (a0_p.mine.length : Int) then
  Option.bind (turns_Own (gi a0_p.mine x27)) fun x48 =>
  some (x48.turn, x48.player, x48.commands)
  else none
  else
  some ((-1), 0, [])) fun (v29, v30, v31) =>
  if l10.length + 1 < 1099511627776 then
  if I64 (v12 + 1) then
  some (St.next ((l10 ++ ([(⟨a0_p.id, v12, (⟨v29, v30, v31⟩ : Inp), v25, v26, (gi a0_p.has (v12 - 1))⟩ : Nte)] : List Nte)), (v12 + 1)))
  else none
  else none
  else none
  else none
  else
  some (St.done (v12, l10))) ([], 1)) fun (v6, v8) =>
  some (v8, 0)
def throngref27_New (a0_id : Int) (a1_players : Int) (a2_delay : Int) : Option Per :=
  if I64 (a2_delay - 1) then
  Option.bind (α := List Int × List Int) (loop (σ := Int × List Int × List Int) (β := List Int × List Int) (fun (v9, l10, l12) =>
  if v9 < a1_players then
  if I64 (a2_delay - 1) then
  if l10.length < 1099511627776 then
  if I64 (a2_delay - 1) then
  if l12.length < 1099511627776 then
  if I64 (v9 + 1) then
  some (St.next ((v9 + 1), (l10 ++ [(a2_delay - 1)]), (l12 ++ [(a2_delay - 1)])))
  else none
  else none
  else none
  else none
  else none
  else
  some (St.done (l10, l12))) (0, [], [])) fun (v5, v7) =>
  some (⟨a0_id, a1_players, a2_delay, 0, (a2_delay - 1), [], [], v5, v7, [], false⟩ : Per)
  else none
def thronglaw28_num (a0_e : Int) : Option Int :=
  some a0_e
def thronglaw28_wakes : Option Bool :=
  Option.bind (peer_New 1 1 1) fun x1 =>
  Option.bind (peer_Ready x1.1) fun x8 =>
  Option.bind (thronglaw28_num x1.2) fun x10 =>
  Option.bind (if x10 = 0 then
  Option.bind (thronglaw28_num x8.2.2) fun x19 =>
  some (decide (x19 = 0))
  else
  some false) fun b13 =>
  some (decide (((b13 = true) ∧ (x8.2.1 = true)) ∧ ((x8.1.length : Int) = 0)))
end Go.Proofs.Ytlpmiledfcblfaa
