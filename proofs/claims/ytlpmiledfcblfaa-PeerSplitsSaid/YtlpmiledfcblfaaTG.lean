/-
  What the statements of the turns and peers call, as pure functions.
-/
import Derived.Test.YtlpmiledfcblfaaRows
import Derived.Test.YtlpmiledfcblfaaTO
import Derived.Test.YtlpmiledfcblfaaZC
import Derived.Test.YtlpmiledfcblfaaVP
import Derived.Test.YtlpmiledfcblfaaTI
set_option linter.unusedVariables false
set_option linter.unusedSimpArgs false
set_option maxRecDepth 20000
set_option maxHeartbeats 4000000
namespace Go.Proofs.Ytlpmiledfcblfaa
open Go.Vg
open Enc (R)
def throngref0_EqNumbers (a0_a : List Int) (a1_b : List Int) : Option Bool :=
  if ¬ (a0_a.length : Int) = (a1_b.length : Int) then
  some false
  else
  Option.bind (α := Ex (Unit) (Bool)) (loop (σ := Int) (β := Ex (Unit) (Bool)) (fun v3 =>
  if v3 < (a0_a.length : Int) then
  if 0 ≤ v3 ∧ v3 < (a0_a.length : Int) then
  if 0 ≤ v3 ∧ v3 < (a1_b.length : Int) then
  if ¬ (gi a0_a v3) = (gi a1_b v3) then
  some (St.done (Ex.up false))
  else
  if I64 (v3 + 1) then
  some (St.next (v3 + 1))
  else none
  else none
  else none
  else
  some (St.done (Ex.go ()))) 0) fun x => x.then fun _ =>
  some true
def throngref0_CopyNumbers (a0_l : List Int) : Option (List Int) :=
  Option.bind (α := List Int) (loop (σ := List Int × Int) (β := List Int) (fun (l4, v6) =>
  if v6 < (a0_l.length : Int) then
  if 0 ≤ v6 ∧ v6 < (a0_l.length : Int) then
  if l4.length < 1099511627776 then
  if I64 (v6 + 1) then
  some (St.next ((l4 ++ [(gi a0_l v6)]), (v6 + 1)))
  else none
  else none
  else none
  else
  some (St.done l4)) ([], 0)) fun v2 =>
  some v2
def throngref0_EqCommand (a0_a : Cmd) (a1_b : Cmd) : Option Bool :=
  Option.bind (if (((a0_a.player = a1_b.player) ∧ (a0_a.seq = a1_b.seq)) ∧ (a0_a.kind = a1_b.kind)) ∧ (a0_a.n = a1_b.n) then
  Option.bind (throngref0_EqNumbers a0_a.units a1_b.units) fun x21 =>
  some x21
  else
  some false) fun b11 =>
  some (decide (((((b11 = true) ∧ (a0_a.tile = a1_b.tile)) ∧ (a0_a.w = a1_b.w)) ∧ (a0_a.h = a1_b.h)) ∧ (a0_a.pos = a1_b.pos)))
def throngref0_CopyCommand (a0_a : Cmd) : Option Cmd :=
  Option.bind (throngref0_CopyNumbers a0_a.units) fun x4 =>
  some (⟨a0_a.player, a0_a.seq, a0_a.kind, a0_a.n, x4, a0_a.tile, a0_a.w, a0_a.h, a0_a.pos⟩ : Cmd)
def throngref0_EqCommands (a0_a : List Cmd) (a1_b : List Cmd) : Option Bool :=
  if ¬ (a0_a.length : Int) = (a1_b.length : Int) then
  some false
  else
  Option.bind (α := Ex (Unit) (Bool)) (loop (σ := Int) (β := Ex (Unit) (Bool)) (fun v3 =>
  if v3 < (a0_a.length : Int) then
  if 0 ≤ v3 ∧ v3 < (a0_a.length : Int) then
  if 0 ≤ v3 ∧ v3 < (a1_b.length : Int) then
  Option.bind (throngref0_EqCommand (gi a0_a v3) (gi a1_b v3)) fun x24 =>
  if (!x24) = true then
  some (St.done (Ex.up false))
  else
  if I64 (v3 + 1) then
  some (St.next (v3 + 1))
  else none
  else none
  else none
  else
  some (St.done (Ex.go ()))) 0) fun x => x.then fun _ =>
  some true
def throngref0_CopyCommands (a0_a : List Cmd) : Option (List Cmd) :=
  Option.bind (α := List Cmd) (loop (σ := List Cmd × Int) (β := List Cmd) (fun (l4, v6) =>
  if v6 < (a0_a.length : Int) then
  if 0 ≤ v6 ∧ v6 < (a0_a.length : Int) then
  Option.bind (throngref0_CopyCommand (gi a0_a v6)) fun x18 =>
  if l4.length + 1 < 1099511627776 then
  if I64 (v6 + 1) then
  some (St.next ((l4 ++ ([x18] : List Cmd)), (v6 + 1)))
  else none
  else none
  else none
  else
  some (St.done l4)) ([], 0)) fun v2 =>
  some v2
def throngref0_EqInput (a0_a : Inp) (a1_b : Inp) : Option Bool :=
  Option.bind (if (a0_a.turn = a1_b.turn) ∧ (a0_a.player = a1_b.player) then
  Option.bind (throngref0_EqCommands a0_a.commands a1_b.commands) fun x9 =>
  some x9
  else
  some false) fun b7 =>
  some b7
def throngref0_CopyInput (a0_a : Inp) : Option Inp :=
  Option.bind (throngref0_CopyCommands a0_a.commands) fun x4 =>
  some (⟨a0_a.turn, a0_a.player, x4⟩ : Inp)
def throngref0_EqInputs (a0_a : List Inp) (a1_b : List Inp) : Option Bool :=
  if ¬ (a0_a.length : Int) = (a1_b.length : Int) then
  some false
  else
  Option.bind (α := Ex (Unit) (Bool)) (loop (σ := Int) (β := Ex (Unit) (Bool)) (fun v3 =>
  if v3 < (a0_a.length : Int) then
  if 0 ≤ v3 ∧ v3 < (a0_a.length : Int) then
  if 0 ≤ v3 ∧ v3 < (a1_b.length : Int) then
  Option.bind (throngref0_EqInput (gi a0_a v3) (gi a1_b v3)) fun x24 =>
  if (!x24) = true then
  some (St.done (Ex.up false))
  else
  if I64 (v3 + 1) then
  some (St.next (v3 + 1))
  else none
  else none
  else none
  else
  some (St.done (Ex.go ()))) 0) fun x => x.then fun _ =>
  some true
def throngref0_CopyInputs (a0_a : List Inp) : Option (List Inp) :=
  Option.bind (α := List Inp) (loop (σ := List Inp × Int) (β := List Inp) (fun (l4, v6) =>
  if v6 < (a0_a.length : Int) then
  if 0 ≤ v6 ∧ v6 < (a0_a.length : Int) then
  Option.bind (throngref0_CopyInput (gi a0_a v6)) fun x18 =>
  if l4.length + 1 < 1099511627776 then
  if I64 (v6 + 1) then
  some (St.next ((l4 ++ ([x18] : List Inp)), (v6 + 1)))
  else none
  else none
  else none
  else
  some (St.done l4)) ([], 0)) fun v2 =>
  some v2
def throngref0_Num (a0_n : Int) (a1_most : Int) : Option Bool :=
  some (decide ((0 ≤ a0_n) ∧ (a0_n ≤ a1_most)))
def throngref0_Rising (a0_l : List Int) : Option Bool :=
  Option.bind (α := Ex (Unit) (Bool)) (loop (σ := Int) (β := Ex (Unit) (Bool)) (fun v2 =>
  if v2 < (a0_l.length : Int) then
  if 0 ≤ v2 ∧ v2 < (a0_l.length : Int) then
  if I64 (v2 - 1) then
  if 0 ≤ (v2 - 1) ∧ (v2 - 1) < (a0_l.length : Int) then
  if (gi a0_l v2) ≤ (gi a0_l (v2 - 1)) then
  some (St.done (Ex.up false))
  else
  if I64 (v2 + 1) then
  some (St.next (v2 + 1))
  else none
  else none
  else none
  else none
  else
  some (St.done (Ex.go ()))) 1) fun x => x.then fun _ =>
  some true
def throngref0_Between (a0_l : List Int) (a1_from : Int) (a2_to : Int) : Option Bool :=
  Option.bind (α := Ex (Unit) (Bool)) (loop (σ := Int) (β := Ex (Unit) (Bool)) (fun v2 =>
  if v2 < (a0_l.length : Int) then
  if 0 ≤ v2 ∧ v2 < (a0_l.length : Int) then
  if ¬ ((gi a0_l v2) < a1_from) → (0 ≤ v2 ∧ v2 < (a0_l.length : Int)) then
  if ((gi a0_l v2) < a1_from) ∨ (a2_to < (gi a0_l v2)) then
  some (St.done (Ex.up false))
  else
  if I64 (v2 + 1) then
  some (St.next (v2 + 1))
  else none
  else none
  else none
  else
  some (St.done (Ex.go ()))) 0) fun x => x.then fun _ =>
  some true
def thronglaw0_Within (a0_i : Int) (a1_n : Int) : Option Int :=
  if 0 ≤ (a0_i % 18446744073709551616) ∧ (1 : Int) ≤ (a1_n % 18446744073709551616) then
  if I64 ((a0_i % 18446744073709551616) % (a1_n % 18446744073709551616)) then
  some ((a0_i % 18446744073709551616) % (a1_n % 18446744073709551616))
  else none
  else none
def thronglaw0_CommandsWeight (a0_l : List Cmd) : Option Int :=
  Option.bind (α := Int) (loop (σ := Int × Int) (β := Int) (fun (v3, v4) =>
  if (v4 < (a0_l.length : Int)) ∧ (v3 < 1048576) then
  if 0 ≤ v4 ∧ v4 < (a0_l.length : Int) then
  if I64 (v3 + (((gi a0_l v4).units).length : Int)) then
  if I64 (v4 + 1) then
  some (St.next ((v3 + (((gi a0_l v4).units).length : Int)), (v4 + 1)))
  else none
  else none
  else none
  else
  some (St.done v3)) ((a0_l.length : Int), 0)) fun v2 =>
  some v2
def thronglaw0_InputsWeight (a0_l : List Inp) : Option Int :=
  Option.bind (α := Int) (loop (σ := Int × Int) (β := Int) (fun (v3, v4) =>
  if (v4 < (a0_l.length : Int)) ∧ (v3 < 1048576) then
  if 0 ≤ v4 ∧ v4 < (a0_l.length : Int) then
  Option.bind (thronglaw0_CommandsWeight ((gi a0_l v4).commands)) fun x18 =>
  if I64 (v3 + x18) then
  if I64 (v4 + 1) then
  some (St.next ((v3 + x18), (v4 + 1)))
  else none
  else none
  else none
  else
  some (St.done v3)) ((a0_l.length : Int), 0)) fun v2 =>
  some v2
def kind_May (a0_k : Int) : Option Bool :=
  some (decide ((0 ≤ a0_k) ∧ (a0_k < 4)))
def disc_Place (a0_p : Vec) : Option Bool :=
  some (decide (((((-1099511627776) ≤ a0_p.x) ∧ (a0_p.x ≤ 1099511627776)) ∧ ((-1099511627776) ≤ a0_p.y)) ∧ (a0_p.y ≤ 1099511627776)))
def command_units (a0_l : List Int) : Option Bool :=
  Option.bind (α := Ex (Unit) (Bool)) (loop (σ := Int) (β := Ex (Unit) (Bool)) (fun v4 =>
  if v4 < (a0_l.length : Int) then
  if 0 ≤ v4 ∧ v4 < (a0_l.length : Int) then
  if ¬ (((gi a0_l v4) < 1) ∨ (1099511627776 < (gi a0_l v4))) → ((0 < v4) → (I64 (v4 - 1))) then
  if ¬ (((gi a0_l v4) < 1) ∨ (1099511627776 < (gi a0_l v4))) → ((0 < v4) → (0 ≤ (v4 - 1) ∧ (v4 - 1) < (a0_l.length : Int))) then
  if (((gi a0_l v4) < 1) ∨ (1099511627776 < (gi a0_l v4))) ∨ ((0 < v4) ∧ ((gi a0_l v4) ≤ (gi a0_l (v4 - 1)))) then
  some (St.done (Ex.up false))
  else
  if I64 (v4 + 1) then
  some (St.next (v4 + 1))
  else none
  else none
  else none
  else none
  else
  some (St.done (Ex.go ()))) 0) fun x => x.then fun _ =>
  some (decide ((1 ≤ (a0_l.length : Int)) ∧ ((a0_l.length : Int) ≤ 64)))
def command_within (a0_n : Int) (a1_least : Int) (a2_most : Int) : Option Bool :=
  some (decide ((a1_least ≤ a0_n) ∧ (a0_n ≤ a2_most)))
def command_only (a0_c : Cmd) : Option (Cmd × Bool) :=
  if a0_c.kind = 1 then
  Option.bind (kind_May a0_c.n) fun x4 =>
  Option.bind (if x4 = true then
  Option.bind (disc_Place a0_c.pos) fun x9 =>
  some x9
  else
  some false) fun b7 =>
  some ((⟨a0_c.player, a0_c.seq, a0_c.kind, a0_c.n, [], 0, 0, 0, a0_c.pos⟩ : Cmd), b7)
  else
  if a0_c.kind = 2 then
  Option.bind (command_units a0_c.units) fun x11 =>
  Option.bind (if x11 = true then
  Option.bind (command_within a0_c.tile 0 16383) fun x16 =>
  some x16
  else
  some false) fun b14 =>
  some ((⟨a0_c.player, a0_c.seq, a0_c.kind, 0, a0_c.units, a0_c.tile, 0, 0, (⟨0, 0⟩ : Vec)⟩ : Cmd), b14)
  else
  if a0_c.kind = 3 then
  Option.bind (command_units a0_c.units) fun x18 =>
  some ((⟨a0_c.player, a0_c.seq, a0_c.kind, 0, a0_c.units, 0, 0, 0, (⟨0, 0⟩ : Vec)⟩ : Cmd), x18)
  else
  if a0_c.kind = 4 then
  Option.bind (command_within a0_c.tile 0 16383) fun x20 =>
  Option.bind (if x20 = true then
  Option.bind (command_within a0_c.w 1 4) fun x30 =>
  some x30
  else
  some false) fun b23 =>
  Option.bind (if b23 = true then
  Option.bind (command_within a0_c.h 1 4) fun x28 =>
  some x28
  else
  some false) fun b26 =>
  some ((⟨a0_c.player, a0_c.seq, a0_c.kind, 0, [], a0_c.tile, a0_c.w, a0_c.h, (⟨0, 0⟩ : Vec)⟩ : Cmd), b26)
  else
  if a0_c.kind = 5 then
  Option.bind (command_within a0_c.n 1 1099511627776) fun x32 =>
  some ((⟨a0_c.player, a0_c.seq, a0_c.kind, a0_c.n, [], 0, 0, 0, (⟨0, 0⟩ : Vec)⟩ : Cmd), x32)
  else
  if a0_c.kind = 6 then
  Option.bind (command_units a0_c.units) fun x34 =>
  Option.bind (if x34 = true then
  Option.bind (command_within a0_c.n 1 1099511627776) fun x39 =>
  some x39
  else
  some false) fun b37 =>
  some ((⟨a0_c.player, a0_c.seq, a0_c.kind, a0_c.n, a0_c.units, 0, 0, 0, (⟨0, 0⟩ : Vec)⟩ : Cmd), b37)
  else
  if a0_c.kind = 7 then
  Option.bind (command_within a0_c.n 1 1099511627776) fun x41 =>
  Option.bind (if x41 = true then
  Option.bind (command_within a0_c.tile 0 16383) fun x46 =>
  some x46
  else
  some false) fun b44 =>
  some ((⟨a0_c.player, a0_c.seq, a0_c.kind, a0_c.n, [], a0_c.tile, 0, 0, (⟨0, 0⟩ : Vec)⟩ : Cmd), b44)
  else
  some ((⟨a0_c.player, a0_c.seq, a0_c.kind, 0, [], 0, 0, 0, (⟨0, 0⟩ : Vec)⟩ : Cmd), false)
def command_May (a0_c : Cmd) : Option Bool :=
  Option.bind (command_only a0_c) fun x2 =>
  Option.bind (if x2.2 = true then
  Option.bind (command_within a0_c.player 1 8) fun x29 =>
  some x29
  else
  some false) fun b10 =>
  Option.bind (if b10 = true then
  Option.bind (command_within a0_c.seq 0 1099511627776) fun x27 =>
  some x27
  else
  some false) fun b13 =>
  some (decide (((((((b13 = true) ∧ (x2.1.n = a0_c.n)) ∧ (x2.1.pos = a0_c.pos)) ∧ (x2.1.tile = a0_c.tile)) ∧ (x2.1.w = a0_c.w)) ∧ (x2.1.h = a0_c.h)) ∧ ((x2.1.units.length : Int) = (a0_c.units.length : Int))))
def command_Own (a0_c : Cmd) : Option Cmd :=
  Option.bind (slices_Clone_Int a0_c.units) fun x3 =>
  some (⟨a0_c.player, a0_c.seq, a0_c.kind, a0_c.n, x3, a0_c.tile, a0_c.w, a0_c.h, a0_c.pos⟩ : Cmd)
def command_OwnAll (a0_l : List Cmd) : Option (List Cmd) :=
  Option.bind (α := List Cmd) (loop (σ := List Cmd × Int) (β := List Cmd) (fun (l4, v6) =>
  if v6 < (a0_l.length : Int) then
  if 0 ≤ v6 ∧ v6 < (a0_l.length : Int) then
  Option.bind (command_Own (gi a0_l v6)) fun x19 =>
  if l4.length + 1 < 1099511627776 then
  if I64 (v6 + 1) then
  some (St.next ((l4 ++ ([x19] : List Cmd)), (v6 + 1)))
  else none
  else none
  else none
  else
  some (St.done l4)) ([], 0)) fun v2 =>
  some v2
def cmp_isNaN (a0_x : Int) : Option Bool :=
  some (decide (¬ a0_x = a0_x))
def cmp_Compare (a0_x : Int) (a1_y : Int) : Option Int :=
  Option.bind (cmp_isNaN a0_x) fun x1 =>
  Option.bind (cmp_isNaN a1_y) fun x2 =>
  if x1 = true then
  if x2 = true then
  some 0
  else
  some (-1)
  else
  if x2 = true then
  some 1
  else
  if a0_x < a1_y then
  some (-1)
  else
  if a1_y < a0_x then
  some 1
  else
  some 0
def cmp_Or (a0_vals : List Int) : Option Int :=
  Option.bind (α := Ex (Unit) (Int)) (loop (σ := Int) (β := Ex (Unit) (Int)) (fun v2 =>
  if v2 < (a0_vals.length : Int) then
  if 0 ≤ v2 ∧ v2 < (a0_vals.length : Int) then
  if ¬ (gi a0_vals v2) = 0 then
  some (St.done (Ex.up (gi a0_vals v2)))
  else
  if I64 (v2 + 1) then
  some (St.next (v2 + 1))
  else none
  else none
  else
  some (St.done (Ex.go ()))) 0) fun x => x.then fun _ =>
  some 0
def thronglaw0_Numbers (a0_l : List Int) : Option Unit :=
  Option.bind (α := List Int) (loop (σ := Int × List Int) (β := List Int) (fun (v6, l7) =>
  if v6 < (a0_l.length : Int) then
  if 0 ≤ v6 ∧ v6 < (a0_l.length : Int) then
  if I64 (v6 + 1) then
  some (St.next ((v6 + 1), (si l7 v6 (-99))))
  else none
  else none
  else
  some (St.done l7)) (0, a0_l)) fun v2 =>
  if v2.length < 1099511627776 then
  some ()
  else none
def turns_less (a0_a : Inp) (a1_b : Inp) : Option Int :=
  Option.bind (cmp_Compare a0_a.turn a1_b.turn) fun x3 =>
  Option.bind (cmp_Compare a0_a.player a1_b.player) fun x4 =>
  Option.bind (cmp_Or [x3, x4]) fun x6 =>
  some x6
def turns_Said (a0_player : Int) (a1_l : List Cmd) : Option Bool :=
  Option.bind (α := Ex (Unit) (Bool)) (loop (σ := Int) (β := Ex (Unit) (Bool)) (fun v2 =>
  if v2 < (a1_l.length : Int) then
  if 0 ≤ v2 ∧ v2 < (a1_l.length : Int) then
  Option.bind (command_May (gi a1_l v2)) fun x15 =>
  if ¬ (((!x15) = true) ∨ (¬ (gi a1_l v2).player = a0_player)) → ((0 < v2) → (I64 (v2 - 1))) then
  if ¬ (((!x15) = true) ∨ (¬ (gi a1_l v2).player = a0_player)) → ((0 < v2) → (0 ≤ (v2 - 1) ∧ (v2 - 1) < (a1_l.length : Int))) then
  if (((!x15) = true) ∨ (¬ (gi a1_l v2).player = a0_player)) ∨ ((0 < v2) ∧ ((gi a1_l v2).seq ≤ (gi a1_l (v2 - 1)).seq)) then
  some (St.done (Ex.up false))
  else
  if I64 (v2 + 1) then
  some (St.next (v2 + 1))
  else none
  else none
  else none
  else none
  else
  some (St.done (Ex.go ()))) 0) fun x => x.then fun _ =>
  some (decide ((a1_l.length : Int) ≤ 64))
def turns_May (a0_i : Inp) : Option Bool :=
  Option.bind (if (((0 ≤ a0_i.turn) ∧ (a0_i.turn ≤ 1099511627776)) ∧ (1 ≤ a0_i.player)) ∧ (a0_i.player ≤ 8) then
  Option.bind (turns_Said a0_i.player a0_i.commands) fun x12 =>
  some x12
  else
  some false) fun b10 =>
  some b10
def turns_Own (a0_i : Inp) : Option Inp :=
  Option.bind (command_OwnAll a0_i.commands) fun x3 =>
  some (⟨a0_i.turn, a0_i.player, x3⟩ : Inp)
def turns_OwnAll (a0_l : List Inp) : Option (List Inp) :=
  Option.bind (α := List Inp) (loop (σ := List Inp × Int) (β := List Inp) (fun (l4, v6) =>
  if v6 < (a0_l.length : Int) then
  if 0 ≤ v6 ∧ v6 < (a0_l.length : Int) then
  Option.bind (turns_Own (gi a0_l v6)) fun x19 =>
  if l4.length + 1 < 1099511627776 then
  if I64 (v6 + 1) then
  some (St.next ((l4 ++ ([x19] : List Inp)), (v6 + 1)))
  else none
  else none
  else none
  else
  some (St.done l4)) ([], 0)) fun v2 =>
  some v2
def turns_Rising (a0_l : List Inp) : Option Bool :=
  Option.bind (α := Ex (Unit) (Bool)) (loop (σ := Int) (β := Ex (Unit) (Bool)) (fun v2 =>
  if v2 < (a0_l.length : Int) then
  if 0 ≤ v2 ∧ v2 < (a0_l.length : Int) then
  Option.bind (turns_May (gi a0_l v2)) fun x15 =>
  Option.bind (if (!x15) = true then
  some true
  else
  Option.bind (if 0 < v2 then
  if I64 (v2 - 1) then
  if 0 ≤ (v2 - 1) ∧ (v2 - 1) < (a0_l.length : Int) then
  Option.bind (turns_less (gi a0_l (v2 - 1)) (gi a0_l v2)) fun x34 =>
  some (decide (0 ≤ x34))
  else none
  else none
  else
  some false) fun b24 =>
  some b24) fun b18 =>
  if b18 = true then
  some (St.done (Ex.up false))
  else
  if I64 (v2 + 1) then
  some (St.next (v2 + 1))
  else none
  else none
  else
  some (St.done (Ex.go ()))) 0) fun x => x.then fun _ =>
  some true
def turns_All (a0_l : List Inp) : Option (List Cmd) :=
  Option.bind (α := List Cmd) (loop (σ := List Cmd × Int) (β := List Cmd) (fun (l4, v6) =>
  if v6 < (a0_l.length : Int) then
  if 0 ≤ v6 ∧ v6 < (a0_l.length : Int) then
  Option.bind (command_OwnAll ((gi a0_l v6).commands)) fun x19 =>
  if l4.length + x19.length < 1099511627776 then
  if I64 (v6 + 1) then
  some (St.next ((l4 ++ x19), (v6 + 1)))
  else none
  else none
  else none
  else
  some (St.done l4)) ([], 0)) fun v2 =>
  some v2
def turns_Part (a0_l : List Inp) (a1_turn : Int) : Option (List Inp × List Inp) :=
  Option.bind (α := List Inp × List Inp) (loop (σ := List Inp × List Inp × Int) (β := List Inp × List Inp) (fun (l6, l8, v10) =>
  if v10 < (a0_l.length : Int) then
  if 0 ≤ v10 ∧ v10 < (a0_l.length : Int) then
  if (gi a0_l v10).turn = a1_turn then
  Option.bind (turns_Own (gi a0_l v10)) fun x24 =>
  if l6.length + 1 < 1099511627776 then
  if I64 (v10 + 1) then
  some (St.next ((l6 ++ ([x24] : List Inp)), l8, (v10 + 1)))
  else none
  else none
  else
  Option.bind (turns_Own (gi a0_l v10)) fun x30 =>
  if l8.length + 1 < 1099511627776 then
  if I64 (v10 + 1) then
  some (St.next (l6, (l8 ++ ([x30] : List Inp)), (v10 + 1)))
  else none
  else none
  else none
  else
  some (St.done (l6, l8))) ([], [], 0)) fun (v2, v4) =>
  some (v2, v4)
def throngref17_May (a0_p : Vec) (a1_r : Int) : Option Bool :=
  some (decide ((((((0 ≤ a1_r) ∧ (a1_r ≤ 262144)) ∧ ((-1099511627776) ≤ a0_p.x)) ∧ (a0_p.x ≤ 1099511627776)) ∧ ((-1099511627776) ≤ a0_p.y)) ∧ (a0_p.y ≤ 1099511627776)))
def throngref21_ids (a0_l : List Int) : Option Bool :=
  Option.bind (if (1 ≤ (a0_l.length : Int)) ∧ ((a0_l.length : Int) ≤ 64) then
  Option.bind (throngref0_Rising a0_l) fun x12 =>
  some x12
  else
  some false) fun b5 =>
  Option.bind (if b5 = true then
  Option.bind (throngref0_Between a0_l 1 1099511627776) fun x10 =>
  some x10
  else
  some false) fun b8 =>
  some b8
def throngref21_tile (a0_t : Int) : Option Bool :=
  some (decide ((0 ≤ a0_t) ∧ (a0_t < 16384)))
def throngref21_id (a0_n : Int) : Option Bool :=
  some (decide ((1 ≤ a0_n) ∧ (a0_n ≤ 1099511627776)))
def throngref21_Command (a0_c : Cmd) : Option Bool :=
  Option.bind (if (1 ≤ a0_c.player) ∧ (a0_c.player ≤ 8) then
  Option.bind (throngref0_Num a0_c.seq 1099511627776) fun x114 =>
  some x114
  else
  some false) fun b7 =>
  if a0_c.kind = 1 then
  Option.bind (if b7 = true then
  Option.bind (throngref0_Num a0_c.n 3) fun x23 =>
  some x23
  else
  some false) fun b11 =>
  Option.bind (if b11 = true then
  Option.bind (throngref17_May a0_c.pos 0) fun x21 =>
  some x21
  else
  some false) fun b14 =>
  Option.bind (if b14 = true then
  Option.bind (throngref0_EqCommand (⟨a0_c.player, a0_c.seq, a0_c.kind, a0_c.n, [], 0, 0, 0, a0_c.pos⟩ : Cmd) a0_c) fun x19 =>
  some x19
  else
  some false) fun b17 =>
  some b17
  else
  if a0_c.kind = 2 then
  Option.bind (if b7 = true then
  Option.bind (throngref21_ids a0_c.units) fun x39 =>
  some x39
  else
  some false) fun b27 =>
  Option.bind (if b27 = true then
  Option.bind (throngref21_tile a0_c.tile) fun x37 =>
  some x37
  else
  some false) fun b30 =>
  Option.bind (if b30 = true then
  Option.bind (throngref0_EqCommand (⟨a0_c.player, a0_c.seq, a0_c.kind, 0, a0_c.units, a0_c.tile, 0, 0, (⟨0, 0⟩ : Vec)⟩ : Cmd) a0_c) fun x35 =>
  some x35
  else
  some false) fun b33 =>
  some b33
  else
  if a0_c.kind = 3 then
  Option.bind (if b7 = true then
  Option.bind (throngref21_ids a0_c.units) fun x50 =>
  some x50
  else
  some false) fun b43 =>
  Option.bind (if b43 = true then
  Option.bind (throngref0_EqCommand (⟨a0_c.player, a0_c.seq, a0_c.kind, 0, a0_c.units, 0, 0, 0, (⟨0, 0⟩ : Vec)⟩ : Cmd) a0_c) fun x48 =>
  some x48
  else
  some false) fun b46 =>
  some b46
  else
  if a0_c.kind = 4 then
  Option.bind (if b7 = true then
  Option.bind (throngref21_tile a0_c.tile) fun x69 =>
  some x69
  else
  some false) fun b54 =>
  Option.bind (if ((((b54 = true) ∧ (1 ≤ a0_c.w)) ∧ (a0_c.w ≤ 4)) ∧ (1 ≤ a0_c.h)) ∧ (a0_c.h ≤ 4) then
  Option.bind (throngref0_EqCommand (⟨a0_c.player, a0_c.seq, a0_c.kind, 0, [], a0_c.tile, a0_c.w, a0_c.h, (⟨0, 0⟩ : Vec)⟩ : Cmd) a0_c) fun x67 =>
  some x67
  else
  some false) fun b65 =>
  some b65
  else
  if a0_c.kind = 5 then
  Option.bind (if b7 = true then
  Option.bind (throngref21_id a0_c.n) fun x80 =>
  some x80
  else
  some false) fun b73 =>
  Option.bind (if b73 = true then
  Option.bind (throngref0_EqCommand (⟨a0_c.player, a0_c.seq, a0_c.kind, a0_c.n, [], 0, 0, 0, (⟨0, 0⟩ : Vec)⟩ : Cmd) a0_c) fun x78 =>
  some x78
  else
  some false) fun b76 =>
  some b76
  else
  if a0_c.kind = 6 then
  Option.bind (if b7 = true then
  Option.bind (throngref21_ids a0_c.units) fun x96 =>
  some x96
  else
  some false) fun b84 =>
  Option.bind (if b84 = true then
  Option.bind (throngref21_id a0_c.n) fun x94 =>
  some x94
  else
  some false) fun b87 =>
  Option.bind (if b87 = true then
  Option.bind (throngref0_EqCommand (⟨a0_c.player, a0_c.seq, a0_c.kind, a0_c.n, a0_c.units, 0, 0, 0, (⟨0, 0⟩ : Vec)⟩ : Cmd) a0_c) fun x92 =>
  some x92
  else
  some false) fun b90 =>
  some b90
  else
  if a0_c.kind = 7 then
  Option.bind (if b7 = true then
  Option.bind (throngref21_id a0_c.n) fun x112 =>
  some x112
  else
  some false) fun b100 =>
  Option.bind (if b100 = true then
  Option.bind (throngref21_tile a0_c.tile) fun x110 =>
  some x110
  else
  some false) fun b103 =>
  Option.bind (if b103 = true then
  Option.bind (throngref0_EqCommand (⟨a0_c.player, a0_c.seq, a0_c.kind, a0_c.n, [], a0_c.tile, 0, 0, (⟨0, 0⟩ : Vec)⟩ : Cmd) a0_c) fun x108 =>
  some x108
  else
  some false) fun b106 =>
  some b106
  else
  some false
def slices_BinarySearchFunc (a0_x : List Inp) (a1_target : Inp) (a2_cmp : (Inp × Inp) → Option Int) : Option (Int × Bool) :=
  Option.bind (α := Int) (loop (σ := Int × Int) (β := Int) (fun (v18, v19) =>
  if v18 < v19 then
  if I64 (v18 + v19) then
  if 0 ≤ ((v18 + v19) % 18446744073709551616) then
  if I64 (((v18 + v19) % 18446744073709551616) / 2) then
  if 0 ≤ (((v18 + v19) % 18446744073709551616) / 2) ∧ (((v18 + v19) % 18446744073709551616) / 2) < (a0_x.length : Int) then
  Option.bind (a2_cmp ((gi a0_x (((v18 + v19) % 18446744073709551616) / 2)), a1_target)) fun x34 =>
  if x34 < 0 then
  if I64 ((((v18 + v19) % 18446744073709551616) / 2) + 1) then
  some (St.next (((((v18 + v19) % 18446744073709551616) / 2) + 1), v19))
  else none
  else
  some (St.next (v18, (((v18 + v19) % 18446744073709551616) / 2)))
  else none
  else none
  else none
  else none
  else
  some (St.done v18)) (0, (a0_x.length : Int))) fun v3 =>
  Option.bind (if v3 < (a0_x.length : Int) then
  if 0 ≤ v3 ∧ v3 < (a0_x.length : Int) then
  Option.bind (a2_cmp ((gi a0_x v3), a1_target)) fun x17 =>
  some (decide (x17 = 0))
  else none
  else
  some false) fun b6 =>
  some (v3, b6)
def turns_In (a0_l : List Inp) (a1_i : Inp) : Option (List Inp × Bool) :=
  Option.bind (slices_BinarySearchFunc a0_l a1_i (fun (y0, y1) => turns_less y0 y1)) fun x2 =>
  if x2.2 = true then
  some ([], false)
  else
  Option.bind (turns_OwnAll a0_l) fun x4 =>
  Option.bind (turns_Own a1_i) fun x6 =>
  Option.bind (slices_InsertI x4 x2.1 ([x6] : List Inp)) fun x9 =>
  some (x9, true)
end Go.Proofs.Ytlpmiledfcblfaa
