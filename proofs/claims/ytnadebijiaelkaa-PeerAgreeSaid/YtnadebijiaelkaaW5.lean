/-
  Texts of one's own, joined: TG PG DD PG3 PG4 PG8.
-/
import Derived.Test.YtnadebijiaelkaaRows
import Derived.Test.YtnadebijiaelkaaW4
import Derived.Test.YtnadebijiaelkaaW3
set_option linter.unusedVariables false
set_option linter.unusedSimpArgs false
set_option maxRecDepth 20000
set_option maxHeartbeats 4000000
namespace Go.Proofs.Ytnadebijiaelkaa
open Go.Vg
open Enc (R)
def throngref0_EqNumbers (a0_a : List Int) (a1_b : List Int) : Option Bool :=
  if ¬ (a0_a.length : Int) = (a1_b.length : Int) then
  some false
  else
  Option.bind (α := Ex (Unit) (Bool)) (loop (σ := Int) (β := Ex (Unit) (Bool)) (fun v3 =>
  if v3 < (a0_a.length : Int) then
  if 0 ≤ v3 ∧ v3 < (a0_a.length : Int) then
  if 0 ≤ v3 ∧ v3 < (a1_b.length : Int) then
  if ¬ (gi a0_a v3) = (gi a1_b v3) then
  some (St.done (Ex.up false))
  else
  if I64 (v3 + 1) then
  some (St.next (v3 + 1))
  else none
  else none
  else none
  else
  some (St.done (Ex.go ()))) 0) fun x => x.then fun _ =>
  some true
def throngref0_CopyNumbers (a0_l : List Int) : Option (List Int) :=
  Option.bind (α := List Int) (loop (σ := List Int × Int) (β := List Int) (fun (l4, v6) =>
  if v6 < (a0_l.length : Int) then
  if 0 ≤ v6 ∧ v6 < (a0_l.length : Int) then
  if l4.length < 1099511627776 then
  if I64 (v6 + 1) then
  some (St.next ((l4 ++ [(gi a0_l v6)]), (v6 + 1)))
  else none
  else none
  else none
  else
  some (St.done l4)) ([], 0)) fun v2 =>
  some v2
def throngref0_EqCommand (a0_a : Cmd) (a1_b : Cmd) : Option Bool :=
  Option.bind (if (((a0_a.player = a1_b.player) ∧ (a0_a.seq = a1_b.seq)) ∧ (a0_a.kind = a1_b.kind)) ∧ (a0_a.n = a1_b.n) then
  Option.bind (throngref0_EqNumbers a0_a.units a1_b.units) fun x21 =>
  some x21
  else
  some false) fun b11 =>
  some (decide (((((b11 = true) ∧ (a0_a.tile = a1_b.tile)) ∧ (a0_a.w = a1_b.w)) ∧ (a0_a.h = a1_b.h)) ∧ (a0_a.pos = a1_b.pos)))
def throngref0_CopyCommand (a0_a : Cmd) : Option Cmd :=
  Option.bind (throngref0_CopyNumbers a0_a.units) fun x4 =>
  some (⟨a0_a.player, a0_a.seq, a0_a.kind, a0_a.n, x4, a0_a.tile, a0_a.w, a0_a.h, a0_a.pos⟩ : Cmd)
def throngref0_EqCommands (a0_a : List Cmd) (a1_b : List Cmd) : Option Bool :=
  if ¬ (a0_a.length : Int) = (a1_b.length : Int) then
  some false
  else
  Option.bind (α := Ex (Unit) (Bool)) (loop (σ := Int) (β := Ex (Unit) (Bool)) (fun v3 =>
  if v3 < (a0_a.length : Int) then
  if 0 ≤ v3 ∧ v3 < (a0_a.length : Int) then
  if 0 ≤ v3 ∧ v3 < (a1_b.length : Int) then
  Option.bind (throngref0_EqCommand (gi a0_a v3) (gi a1_b v3)) fun x24 =>
  if (!x24) = true then
  some (St.done (Ex.up false))
  else
  if I64 (v3 + 1) then
  some (St.next (v3 + 1))
  else none
  else none
  else none
  else
  some (St.done (Ex.go ()))) 0) fun x => x.then fun _ =>
  some true
def throngref0_CopyCommands (a0_a : List Cmd) : Option (List Cmd) :=
  Option.bind (α := List Cmd) (loop (σ := List Cmd × Int) (β := List Cmd) (fun (l4, v6) =>
  if v6 < (a0_a.length : Int) then
  if 0 ≤ v6 ∧ v6 < (a0_a.length : Int) then
  Option.bind (throngref0_CopyCommand (gi a0_a v6)) fun x18 =>
  if l4.length + 1 < 1099511627776 then
  if I64 (v6 + 1) then
  some (St.next ((l4 ++ ([x18] : List Cmd)), (v6 + 1)))
  else none
  else none
  else none
  else
  some (St.done l4)) ([], 0)) fun v2 =>
  some v2
def throngref0_EqInput (a0_a : Inp) (a1_b : Inp) : Option Bool :=
  Option.bind (if (a0_a.turn = a1_b.turn) ∧ (a0_a.player = a1_b.player) then
  Option.bind (throngref0_EqCommands a0_a.commands a1_b.commands) fun x9 =>
  some x9
  else
  some false) fun b7 =>
  some b7
def throngref0_CopyInput (a0_a : Inp) : Option Inp :=
  Option.bind (throngref0_CopyCommands a0_a.commands) fun x4 =>
  some (⟨a0_a.turn, a0_a.player, x4⟩ : Inp)
def throngref0_CopyInputs (a0_a : List Inp) : Option (List Inp) :=
  Option.bind (α := List Inp) (loop (σ := List Inp × Int) (β := List Inp) (fun (l4, v6) =>
  if v6 < (a0_a.length : Int) then
  if 0 ≤ v6 ∧ v6 < (a0_a.length : Int) then
  Option.bind (throngref0_CopyInput (gi a0_a v6)) fun x18 =>
  if l4.length + 1 < 1099511627776 then
  if I64 (v6 + 1) then
  some (St.next ((l4 ++ ([x18] : List Inp)), (v6 + 1)))
  else none
  else none
  else none
  else
  some (St.done l4)) ([], 0)) fun v2 =>
  some v2
def throngref0_Num (a0_n : Int) (a1_most : Int) : Option Bool :=
  some (decide ((0 ≤ a0_n) ∧ (a0_n ≤ a1_most)))
def throngref0_Rising (a0_l : List Int) : Option Bool :=
  Option.bind (α := Ex (Unit) (Bool)) (loop (σ := Int) (β := Ex (Unit) (Bool)) (fun v2 =>
  if v2 < (a0_l.length : Int) then
  if 0 ≤ v2 ∧ v2 < (a0_l.length : Int) then
  if I64 (v2 - 1) then
  if 0 ≤ (v2 - 1) ∧ (v2 - 1) < (a0_l.length : Int) then
  if (gi a0_l v2) ≤ (gi a0_l (v2 - 1)) then
  some (St.done (Ex.up false))
  else
  if I64 (v2 + 1) then
  some (St.next (v2 + 1))
  else none
  else none
  else none
  else none
  else
  some (St.done (Ex.go ()))) 1) fun x => x.then fun _ =>
  some true
def throngref0_Between (a0_l : List Int) (a1_from : Int) (a2_to : Int) : Option Bool :=
  Option.bind (α := Ex (Unit) (Bool)) (loop (σ := Int) (β := Ex (Unit) (Bool)) (fun v2 =>
  if v2 < (a0_l.length : Int) then
  if 0 ≤ v2 ∧ v2 < (a0_l.length : Int) then
  if ¬ ((gi a0_l v2) < a1_from) → (0 ≤ v2 ∧ v2 < (a0_l.length : Int)) then
  if ((gi a0_l v2) < a1_from) ∨ (a2_to < (gi a0_l v2)) then
  some (St.done (Ex.up false))
  else
  if I64 (v2 + 1) then
  some (St.next (v2 + 1))
  else none
  else none
  else none
  else
  some (St.done (Ex.go ()))) 0) fun x => x.then fun _ =>
  some true
def thronglaw0_Within (a0_i : Int) (a1_n : Int) : Option Int :=
  if 0 ≤ (a0_i % 18446744073709551616) ∧ (1 : Int) ≤ (a1_n % 18446744073709551616) then
  if I64 ((a0_i % 18446744073709551616) % (a1_n % 18446744073709551616)) then
  some ((a0_i % 18446744073709551616) % (a1_n % 18446744073709551616))
  else none
  else none
def thronglaw0_CommandsWeight (a0_l : List Cmd) : Option Int :=
  Option.bind (α := Int) (loop (σ := Int × Int) (β := Int) (fun (v3, v4) =>
  if (v4 < (a0_l.length : Int)) ∧ (v3 < 1048576) then
  if 0 ≤ v4 ∧ v4 < (a0_l.length : Int) then
  if I64 (v3 + (((gi a0_l v4).units).length : Int)) then
  if I64 (v4 + 1) then
  some (St.next ((v3 + (((gi a0_l v4).units).length : Int)), (v4 + 1)))
  else none
  else none
  else none
  else
  some (St.done v3)) ((a0_l.length : Int), 0)) fun v2 =>
  some v2
def thronglaw0_InputsWeight (a0_l : List Inp) : Option Int :=
  Option.bind (α := Int) (loop (σ := Int × Int) (β := Int) (fun (v3, v4) =>
  if (v4 < (a0_l.length : Int)) ∧ (v3 < 1048576) then
  if 0 ≤ v4 ∧ v4 < (a0_l.length : Int) then
  Option.bind (thronglaw0_CommandsWeight ((gi a0_l v4).commands)) fun x18 =>
  if I64 (v3 + x18) then
  if I64 (v4 + 1) then
  some (St.next ((v3 + x18), (v4 + 1)))
  else none
  else none
  else none
  else
  some (St.done v3)) ((a0_l.length : Int), 0)) fun v2 =>
  some v2
def kind_May (a0_k : Int) : Option Bool :=
  some (decide ((0 ≤ a0_k) ∧ (a0_k < 4)))
def disc_Place (a0_p : Vec) : Option Bool :=
  some (decide (((((-1099511627776) ≤ a0_p.x) ∧ (a0_p.x ≤ 1099511627776)) ∧ ((-1099511627776) ≤ a0_p.y)) ∧ (a0_p.y ≤ 1099511627776)))
def command_units (a0_l : List Int) : Option Bool :=
  Option.bind (α := Ex (Unit) (Bool)) (loop (σ := Int) (β := Ex (Unit) (Bool)) (fun v4 =>
  if v4 < (a0_l.length : Int) then
  if 0 ≤ v4 ∧ v4 < (a0_l.length : Int) then
  if ¬ (((gi a0_l v4) < 1) ∨ (1099511627776 < (gi a0_l v4))) → ((0 < v4) → (I64 (v4 - 1))) then
  if ¬ (((gi a0_l v4) < 1) ∨ (1099511627776 < (gi a0_l v4))) → ((0 < v4) → (0 ≤ (v4 - 1) ∧ (v4 - 1) < (a0_l.length : Int))) then
  if (((gi a0_l v4) < 1) ∨ (1099511627776 < (gi a0_l v4))) ∨ ((0 < v4) ∧ ((gi a0_l v4) ≤ (gi a0_l (v4 - 1)))) then
  some (St.done (Ex.up false))
  else
  if I64 (v4 + 1) then
  some (St.next (v4 + 1))
  else none
  else none
  else none
  else none
  else
  some (St.done (Ex.go ()))) 0) fun x => x.then fun _ =>
  some (decide ((1 ≤ (a0_l.length : Int)) ∧ ((a0_l.length : Int) ≤ 64)))
def command_within (a0_n : Int) (a1_least : Int) (a2_most : Int) : Option Bool :=
  some (decide ((a1_least ≤ a0_n) ∧ (a0_n ≤ a2_most)))
def command_only (a0_c : Cmd) : Option (Cmd × Bool) :=
  if a0_c.kind = 1 then
  Option.bind (kind_May a0_c.n) fun x4 =>
  Option.bind (if x4 = true then
  Option.bind (disc_Place a0_c.pos) fun x9 =>
  some x9
  else
  some false) fun b7 =>
  some ((⟨a0_c.player, a0_c.seq, a0_c.kind, a0_c.n, [], 0, 0, 0, a0_c.pos⟩ : Cmd), b7)
  else
  if a0_c.kind = 2 then
  Option.bind (command_units a0_c.units) fun x11 =>
  Option.bind (if x11 = true then
  Option.bind (command_within a0_c.tile 0 16383) fun x16 =>
  some x16
  else
  some false) fun b14 =>
  some ((⟨a0_c.player, a0_c.seq, a0_c.kind, 0, a0_c.units, a0_c.tile, 0, 0, (⟨0, 0⟩ : Vec)⟩ : Cmd), b14)
  else
  if a0_c.kind = 3 then
  Option.bind (command_units a0_c.units) fun x18 =>
  some ((⟨a0_c.player, a0_c.seq, a0_c.kind, 0, a0_c.units, 0, 0, 0, (⟨0, 0⟩ : Vec)⟩ : Cmd), x18)
  else
  if a0_c.kind = 4 then
  Option.bind (command_within a0_c.tile 0 16383) fun x20 =>
  Option.bind (if x20 = true then
  Option.bind (command_within a0_c.w 1 4) fun x30 =>
  some x30
  else
  some false) fun b23 =>
  Option.bind (if b23 = true then
  Option.bind (command_within a0_c.h 1 4) fun x28 =>
  some x28
  else
  some false) fun b26 =>
  some ((⟨a0_c.player, a0_c.seq, a0_c.kind, 0, [], a0_c.tile, a0_c.w, a0_c.h, (⟨0, 0⟩ : Vec)⟩ : Cmd), b26)
  else
  if a0_c.kind = 5 then
  Option.bind (command_within a0_c.n 1 1099511627776) fun x32 =>
  some ((⟨a0_c.player, a0_c.seq, a0_c.kind, a0_c.n, [], 0, 0, 0, (⟨0, 0⟩ : Vec)⟩ : Cmd), x32)
  else
  if a0_c.kind = 6 then
  Option.bind (command_units a0_c.units) fun x34 =>
  Option.bind (if x34 = true then
  Option.bind (command_within a0_c.n 1 1099511627776) fun x39 =>
  some x39
  else
  some false) fun b37 =>
  some ((⟨a0_c.player, a0_c.seq, a0_c.kind, a0_c.n, a0_c.units, 0, 0, 0, (⟨0, 0⟩ : Vec)⟩ : Cmd), b37)
  else
  if a0_c.kind = 7 then
  Option.bind (command_within a0_c.n 1 1099511627776) fun x41 =>
  Option.bind (if x41 = true then
  Option.bind (command_within a0_c.tile 0 16383) fun x46 =>
  some x46
  else
  some false) fun b44 =>
  some ((⟨a0_c.player, a0_c.seq, a0_c.kind, a0_c.n, [], a0_c.tile, 0, 0, (⟨0, 0⟩ : Vec)⟩ : Cmd), b44)
  else
  some ((⟨a0_c.player, a0_c.seq, a0_c.kind, 0, [], 0, 0, 0, (⟨0, 0⟩ : Vec)⟩ : Cmd), false)
def command_May (a0_c : Cmd) : Option Bool :=
  Option.bind (command_only a0_c) fun x2 =>
  Option.bind (if x2.2 = true then
  Option.bind (command_within a0_c.player 1 8) fun x29 =>
  some x29
  else
  some false) fun b10 =>
  Option.bind (if b10 = true then
  Option.bind (command_within a0_c.seq 0 1099511627776) fun x27 =>
  some x27
  else
  some false) fun b13 =>
  some (decide (((((((b13 = true) ∧ (x2.1.n = a0_c.n)) ∧ (x2.1.pos = a0_c.pos)) ∧ (x2.1.tile = a0_c.tile)) ∧ (x2.1.w = a0_c.w)) ∧ (x2.1.h = a0_c.h)) ∧ ((x2.1.units.length : Int) = (a0_c.units.length : Int))))
def command_Own (a0_c : Cmd) : Option Cmd :=
  Option.bind (slices_Clone_Int a0_c.units) fun x3 =>
  some (⟨a0_c.player, a0_c.seq, a0_c.kind, a0_c.n, x3, a0_c.tile, a0_c.w, a0_c.h, a0_c.pos⟩ : Cmd)
def command_OwnAll (a0_l : List Cmd) : Option (List Cmd) :=
  Option.bind (α := List Cmd) (loop (σ := List Cmd × Int) (β := List Cmd) (fun (l4, v6) =>
  if v6 < (a0_l.length : Int) then
  if 0 ≤ v6 ∧ v6 < (a0_l.length : Int) then
  Option.bind (command_Own (gi a0_l v6)) fun x19 =>
  if l4.length + 1 < 1099511627776 then
  if I64 (v6 + 1) then
  some (St.next ((l4 ++ ([x19] : List Cmd)), (v6 + 1)))
  else none
  else none
  else none
  else
  some (St.done l4)) ([], 0)) fun v2 =>
  some v2
def cmp_isNaN (a0_x : Int) : Option Bool :=
  some (decide (¬ a0_x = a0_x))
def cmp_Compare (a0_x : Int) (a1_y : Int) : Option Int :=
  Option.bind (cmp_isNaN a0_x) fun x1 =>
  Option.bind (cmp_isNaN a1_y) fun x2 =>
  if x1 = true then
  if x2 = true then
  some 0
  else
  some (-1)
  else
  if x2 = true then
  some 1
  else
  if a0_x < a1_y then
  some (-1)
  else
  if a1_y < a0_x then
  some 1
  else
  some 0
def cmp_Or (a0_vals : List Int) : Option Int :=
  Option.bind (α := Ex (Unit) (Int)) (loop (σ := Int) (β := Ex (Unit) (Int)) (fun v2 =>
  if v2 < (a0_vals.length : Int) then
  if 0 ≤ v2 ∧ v2 < (a0_vals.length : Int) then
  if ¬ (gi a0_vals v2) = 0 then
  some (St.done (Ex.up (gi a0_vals v2)))
  else
  if I64 (v2 + 1) then
  some (St.next (v2 + 1))
  else none
  else none
  else
  some (St.done (Ex.go ()))) 0) fun x => x.then fun _ =>
  some 0
def turns_less (a0_a : Inp) (a1_b : Inp) : Option Int :=
  Option.bind (cmp_Compare a0_a.turn a1_b.turn) fun x3 =>
  Option.bind (cmp_Compare a0_a.player a1_b.player) fun x4 =>
  Option.bind (cmp_Or [x3, x4]) fun x6 =>
  some x6
def turns_Said (a0_player : Int) (a1_l : List Cmd) : Option Bool :=
  Option.bind (α := Ex (Unit) (Bool)) (loop (σ := Int) (β := Ex (Unit) (Bool)) (fun v2 =>
  if v2 < (a1_l.length : Int) then
  if 0 ≤ v2 ∧ v2 < (a1_l.length : Int) then
  Option.bind (command_May (gi a1_l v2)) fun x15 =>
  if ¬ (((!x15) = true) ∨ (¬ (gi a1_l v2).player = a0_player)) → ((0 < v2) → (I64 (v2 - 1))) then
  if ¬ (((!x15) = true) ∨ (¬ (gi a1_l v2).player = a0_player)) → ((0 < v2) → (0 ≤ (v2 - 1) ∧ (v2 - 1) < (a1_l.length : Int))) then
  if (((!x15) = true) ∨ (¬ (gi a1_l v2).player = a0_player)) ∨ ((0 < v2) ∧ ((gi a1_l v2).seq ≤ (gi a1_l (v2 - 1)).seq)) then
  some (St.done (Ex.up false))
  else
  if I64 (v2 + 1) then
  some (St.next (v2 + 1))
  else none
  else none
  else none
  else none
  else
  some (St.done (Ex.go ()))) 0) fun x => x.then fun _ =>
  some (decide ((a1_l.length : Int) ≤ 64))
def turns_May (a0_i : Inp) : Option Bool :=
  Option.bind (if (((0 ≤ a0_i.turn) ∧ (a0_i.turn ≤ 1099511627776)) ∧ (1 ≤ a0_i.player)) ∧ (a0_i.player ≤ 8) then
  Option.bind (turns_Said a0_i.player a0_i.commands) fun x12 =>
  some x12
  else
  some false) fun b10 =>
  some b10
def turns_Own (a0_i : Inp) : Option Inp :=
  Option.bind (command_OwnAll a0_i.commands) fun x3 =>
  some (⟨a0_i.turn, a0_i.player, x3⟩ : Inp)
def turns_OwnAll (a0_l : List Inp) : Option (List Inp) :=
  Option.bind (α := List Inp) (loop (σ := List Inp × Int) (β := List Inp) (fun (l4, v6) =>
  if v6 < (a0_l.length : Int) then
  if 0 ≤ v6 ∧ v6 < (a0_l.length : Int) then
  Option.bind (turns_Own (gi a0_l v6)) fun x19 =>
  if l4.length + 1 < 1099511627776 then
  if I64 (v6 + 1) then
  some (St.next ((l4 ++ ([x19] : List Inp)), (v6 + 1)))
  else none
  else none
  else none
  else
  some (St.done l4)) ([], 0)) fun v2 =>
  some v2
def turns_Rising (a0_l : List Inp) : Option Bool :=
  Option.bind (α := Ex (Unit) (Bool)) (loop (σ := Int) (β := Ex (Unit) (Bool)) (fun v2 =>
  if v2 < (a0_l.length : Int) then
  if 0 ≤ v2 ∧ v2 < (a0_l.length : Int) then
  Option.bind (turns_May (gi a0_l v2)) fun x15 =>
  Option.bind (if (!x15) = true then
  some true
  else
  Option.bind (if 0 < v2 then
  if I64 (v2 - 1) then
  if 0 ≤ (v2 - 1) ∧ (v2 - 1) < (a0_l.length : Int) then
  Option.bind (turns_less (gi a0_l (v2 - 1)) (gi a0_l v2)) fun x34 =>
  some (decide (0 ≤ x34))
  else none
  else none
  else
  some false) fun b24 =>
  some b24) fun b18 =>
  if b18 = true then
  some (St.done (Ex.up false))
  else
  if I64 (v2 + 1) then
  some (St.next (v2 + 1))
  else none
  else none
  else
  some (St.done (Ex.go ()))) 0) fun x => x.then fun _ =>
  some true
def turns_All (a0_l : List Inp) : Option (List Cmd) :=
  Option.bind (α := List Cmd) (loop (σ := List Cmd × Int) (β := List Cmd) (fun (l4, v6) =>
  if v6 < (a0_l.length : Int) then
  if 0 ≤ v6 ∧ v6 < (a0_l.length : Int) then
  Option.bind (command_OwnAll ((gi a0_l v6).commands)) fun x19 =>
  if l4.length + x19.length < 1099511627776 then
  if I64 (v6 + 1) then
  some (St.next ((l4 ++ x19), (v6 + 1)))
  else none
  else none
  else none
  else
  some (St.done l4)) ([], 0)) fun v2 =>
  some v2
def turns_Part (a0_l : List Inp) (a1_turn : Int) : Option (List Inp × List Inp) :=
  Option.bind (α := List Inp × List Inp) (loop (σ := List Inp × List Inp × Int) (β := List Inp × List Inp) (fun (l6, l8, v10) =>
  if v10 < (a0_l.length : Int) then
  if 0 ≤ v10 ∧ v10 < (a0_l.length : Int) then
  if (gi a0_l v10).turn = a1_turn then
  Option.bind (turns_Own (gi a0_l v10)) fun x24 =>
  if l6.length + 1 < 1099511627776 then
  if I64 (v10 + 1) then
  some (St.next ((l6 ++ ([x24] : List Inp)), l8, (v10 + 1)))
  else none
  else none
  else
  Option.bind (turns_Own (gi a0_l v10)) fun x30 =>
  if l8.length + 1 < 1099511627776 then
  if I64 (v10 + 1) then
  some (St.next (l6, (l8 ++ ([x30] : List Inp)), (v10 + 1)))
  else none
  else none
  else none
  else
  some (St.done (l6, l8))) ([], [], 0)) fun (v2, v4) =>
  some (v2, v4)
def throngref17_May (a0_p : Vec) (a1_r : Int) : Option Bool :=
  some (decide ((((((0 ≤ a1_r) ∧ (a1_r ≤ 262144)) ∧ ((-1099511627776) ≤ a0_p.x)) ∧ (a0_p.x ≤ 1099511627776)) ∧ ((-1099511627776) ≤ a0_p.y)) ∧ (a0_p.y ≤ 1099511627776)))
def throngref21_ids (a0_l : List Int) : Option Bool :=
  Option.bind (if (1 ≤ (a0_l.length : Int)) ∧ ((a0_l.length : Int) ≤ 64) then
  Option.bind (throngref0_Rising a0_l) fun x12 =>
  some x12
  else
  some false) fun b5 =>
  Option.bind (if b5 = true then
  Option.bind (throngref0_Between a0_l 1 1099511627776) fun x10 =>
  some x10
  else
  some false) fun b8 =>
  some b8
def throngref21_tile (a0_t : Int) : Option Bool :=
  some (decide ((0 ≤ a0_t) ∧ (a0_t < 16384)))
def throngref21_id (a0_n : Int) : Option Bool :=
  some (decide ((1 ≤ a0_n) ∧ (a0_n ≤ 1099511627776)))
def throngref21_Command (a0_c : Cmd) : Option Bool :=
  Option.bind (if (1 ≤ a0_c.player) ∧ (a0_c.player ≤ 8) then
  Option.bind (throngref0_Num a0_c.seq 1099511627776) fun x114 =>
  some x114
  else
  some false) fun b7 =>
  if a0_c.kind = 1 then
  Option.bind (if b7 = true then
  Option.bind (throngref0_Num a0_c.n 3) fun x23 =>
  some x23
  else
  some false) fun b11 =>
  Option.bind (if b11 = true then
  Option.bind (throngref17_May a0_c.pos 0) fun x21 =>
  some x21
  else
  some false) fun b14 =>
  Option.bind (if b14 = true then
  Option.bind (throngref0_EqCommand (⟨a0_c.player, a0_c.seq, a0_c.kind, a0_c.n, [], 0, 0, 0, a0_c.pos⟩ : Cmd) a0_c) fun x19 =>
  some x19
  else
  some false) fun b17 =>
  some b17
  else
  if a0_c.kind = 2 then
  Option.bind (if b7 = true then
  Option.bind (throngref21_ids a0_c.units) fun x39 =>
  some x39
  else
  some false) fun b27 =>
  Option.bind (if b27 = true then
  Option.bind (throngref21_tile a0_c.tile) fun x37 =>
  some x37
  else
  some false) fun b30 =>
  Option.bind (if b30 = true then
  Option.bind (throngref0_EqCommand (⟨a0_c.player, a0_c.seq, a0_c.kind, 0, a0_c.units, a0_c.tile, 0, 0, (⟨0, 0⟩ : Vec)⟩ : Cmd) a0_c) fun x35 =>
  some x35
  else
  some false) fun b33 =>
  some b33
  else
  if a0_c.kind = 3 then
  Option.bind (if b7 = true then
  Option.bind (throngref21_ids a0_c.units) fun x50 =>
  some x50
  else
  some false) fun b43 =>
  Option.bind (if b43 = true then
  Option.bind (throngref0_EqCommand (⟨a0_c.player, a0_c.seq, a0_c.kind, 0, a0_c.units, 0, 0, 0, (⟨0, 0⟩ : Vec)⟩ : Cmd) a0_c) fun x48 =>
  some x48
  else
  some false) fun b46 =>
  some b46
  else
  if a0_c.kind = 4 then
  Option.bind (if b7 = true then
  Option.bind (throngref21_tile a0_c.tile) fun x69 =>
  some x69
  else
  some false) fun b54 =>
  Option.bind (if ((((b54 = true) ∧ (1 ≤ a0_c.w)) ∧ (a0_c.w ≤ 4)) ∧ (1 ≤ a0_c.h)) ∧ (a0_c.h ≤ 4) then
  Option.bind (throngref0_EqCommand (⟨a0_c.player, a0_c.seq, a0_c.kind, 0, [], a0_c.tile, a0_c.w, a0_c.h, (⟨0, 0⟩ : Vec)⟩ : Cmd) a0_c) fun x67 =>
  some x67
  else
  some false) fun b65 =>
  some b65
  else
  if a0_c.kind = 5 then
  Option.bind (if b7 = true then
  Option.bind (throngref21_id a0_c.n) fun x80 =>
  some x80
  else
  some false) fun b73 =>
  Option.bind (if b73 = true then
  Option.bind (throngref0_EqCommand (⟨a0_c.player, a0_c.seq, a0_c.kind, a0_c.n, [], 0, 0, 0, (⟨0, 0⟩ : Vec)⟩ : Cmd) a0_c) fun x78 =>
  some x78
  else
  some false) fun b76 =>
  some b76
  else
  if a0_c.kind = 6 then
  Option.bind (if b7 = true then
  Option.bind (throngref21_ids a0_c.units) fun x96 =>
  some x96
  else
  some false) fun b84 =>
  Option.bind (if b84 = true then
  Option.bind (throngref21_id a0_c.n) fun x94 =>
  some x94
  else
  some false) fun b87 =>
  Option.bind (if b87 = true then
  Option.bind (throngref0_EqCommand (⟨a0_c.player, a0_c.seq, a0_c.kind, a0_c.n, a0_c.units, 0, 0, 0, (⟨0, 0⟩ : Vec)⟩ : Cmd) a0_c) fun x92 =>
  some x92
  else
  some false) fun b90 =>
  some b90
  else
  if a0_c.kind = 7 then
  Option.bind (if b7 = true then
  Option.bind (throngref21_id a0_c.n) fun x112 =>
  some x112
  else
  some false) fun b100 =>
  Option.bind (if b100 = true then
  Option.bind (throngref21_tile a0_c.tile) fun x110 =>
  some x110
  else
  some false) fun b103 =>
  Option.bind (if b103 = true then
  Option.bind (throngref0_EqCommand (⟨a0_c.player, a0_c.seq, a0_c.kind, a0_c.n, [], a0_c.tile, 0, 0, (⟨0, 0⟩ : Vec)⟩ : Cmd) a0_c) fun x108 =>
  some x108
  else
  some false) fun b106 =>
  some b106
  else
  some false
def slices_BinarySearchFunc (a0_x : List Inp) (a1_target : Inp) (a2_cmp : (Inp × Inp) → Option Int) : Option (Int × Bool) :=
  Option.bind (α := Int) (loop (σ := Int × Int) (β := Int) (fun (v18, v19) =>
  if v18 < v19 then
  if I64 (v18 + v19) then
  if 0 ≤ ((v18 + v19) % 18446744073709551616) then
  if I64 (((v18 + v19) % 18446744073709551616) / 2) then
  if 0 ≤ (((v18 + v19) % 18446744073709551616) / 2) ∧ (((v18 + v19) % 18446744073709551616) / 2) < (a0_x.length : Int) then
  Option.bind (a2_cmp ((gi a0_x (((v18 + v19) % 18446744073709551616) / 2)), a1_target)) fun x34 =>
  if x34 < 0 then
  if I64 ((((v18 + v19) % 18446744073709551616) / 2) + 1) then
  some (St.next (((((v18 + v19) % 18446744073709551616) / 2) + 1), v19))
  else none
  else
  some (St.next (v18, (((v18 + v19) % 18446744073709551616) / 2)))
  else none
  else none
  else none
  else none
  else
  some (St.done v18)) (0, (a0_x.length : Int))) fun v3 =>
  Option.bind (if v3 < (a0_x.length : Int) then
  if 0 ≤ v3 ∧ v3 < (a0_x.length : Int) then
  Option.bind (a2_cmp ((gi a0_x v3), a1_target)) fun x17 =>
  some (decide (x17 = 0))
  else none
  else
  some false) fun b6 =>
  some (v3, b6)
def turns_In (a0_l : List Inp) (a1_i : Inp) : Option (List Inp × Bool) :=
  Option.bind (slices_BinarySearchFunc a0_l a1_i (fun (y0, y1) => turns_less y0 y1)) fun x2 =>
  if x2.2 = true then
  some ([], false)
  else
  Option.bind (turns_OwnAll a0_l) fun x4 =>
  Option.bind (turns_Own a1_i) fun x6 =>
  Option.bind (slices_InsertI x4 x2.1 ([x6] : List Inp)) fun x9 =>
  some (x9, true)
end Go.Proofs.Ytnadebijiaelkaa
set_option linter.unusedVariables false
set_option linter.unusedSimpArgs false
set_option maxRecDepth 20000
set_option maxHeartbeats 4000000
namespace Go.Proofs.Ytnadebijiaelkaa
open Go.Vg
open Enc (R)
def slices_Min (a0_x : List Int) : Option Int :=
  Option.bind (α := Unit) (if (a0_x.length : Int) < 1 then
  none
  else
  some ()) fun _ =>
  if 0 ≤ (0 : Int) ∧ (0 : Int) < (a0_x.length : Int) then
  Option.bind (α := Int) (loop (σ := Int × Int) (β := Int) (fun (v7, v8) =>
  if v8 < (a0_x.length : Int) then
  if 0 ≤ v8 ∧ v8 < (a0_x.length : Int) then
  if I64 (v8 + 1) then
  some (St.next ((min v7 (gi a0_x v8)), (v8 + 1)))
  else none
  else none
  else
  some (St.done v7)) ((gi a0_x (0 : Int)), 1)) fun v6 =>
  some v6
  else none
def slices_Max (a0_x : List Int) : Option Int :=
  Option.bind (α := Unit) (if (a0_x.length : Int) < 1 then
  none
  else
  some ()) fun _ =>
  if 0 ≤ (0 : Int) ∧ (0 : Int) < (a0_x.length : Int) then
  Option.bind (α := Int) (loop (σ := Int × Int) (β := Int) (fun (v7, v8) =>
  if v8 < (a0_x.length : Int) then
  if 0 ≤ v8 ∧ v8 < (a0_x.length : Int) then
  if I64 (v8 + 1) then
  some (St.next ((max v7 (gi a0_x v8)), (v8 + 1)))
  else none
  else none
  else
  some (St.done v7)) ((gi a0_x (0 : Int)), 1)) fun v6 =>
  some v6
  else none
def peer_counts (a0_p : Per) (a1_l : List Int) : Option Bool :=
  Option.bind (α := Ex (Unit) (Bool)) (loop (σ := Int) (β := Ex (Unit) (Bool)) (fun v9 =>
  if v9 < (a1_l.length : Int) then
  if 0 ≤ v9 ∧ v9 < (a1_l.length : Int) then
  if I64 (a0_p.delay - 1) then
  if ¬ ((gi a1_l v9) < (a0_p.delay - 1)) → (I64 (a0_p.turn + 16)) then
  if (((gi a1_l v9) < (a0_p.delay - 1)) ∨ ((a0_p.turn + 16) < (gi a1_l v9))) ∨ (1099511627776 < (gi a1_l v9)) then
  some (St.done (Ex.up false))
  else
  if I64 (v9 + 1) then
  some (St.next (v9 + 1))
  else none
  else none
  else none
  else none
  else
  some (St.done (Ex.go ()))) 0) fun x => x.then fun _ =>
  if ((a1_l.length : Int) = a0_p.players) → (I64 (a0_p.id - 1)) then
  if ((a1_l.length : Int) = a0_p.players) → (0 ≤ (a0_p.id - 1) ∧ (a0_p.id - 1) < (a1_l.length : Int)) then
  some (decide (((a1_l.length : Int) = a0_p.players) ∧ ((gi a1_l (a0_p.id - 1)) = a0_p.said)))
  else none
  else none
def peer_mine (a0_p : Per) : Option Bool :=
  Option.bind (slices_Min a0_p.acked) fun x2 =>
  if I64 (a0_p.said - x2) then
  if ¬ (a0_p.mine.length : Int) = (a0_p.said - x2) then
  some false
  else
  Option.bind (α := Ex (Unit) (Bool)) (loop (σ := Int) (β := Ex (Unit) (Bool)) (fun v6 =>
  if v6 < (a0_p.mine.length : Int) then
  if 0 ≤ v6 ∧ v6 < (a0_p.mine.length : Int) then
  Option.bind (turns_May (gi a0_p.mine v6)) fun x19 =>
  if ¬ (((!x19) = true) ∨ (¬ (gi a0_p.mine v6).player = a0_p.id)) → (I64 (a0_p.said - (a0_p.mine.length : Int))) then
  if ¬ (((!x19) = true) ∨ (¬ (gi a0_p.mine v6).player = a0_p.id)) → (I64 ((a0_p.said - (a0_p.mine.length : Int)) + 1)) then
  if ¬ (((!x19) = true) ∨ (¬ (gi a0_p.mine v6).player = a0_p.id)) → (I64 (((a0_p.said - (a0_p.mine.length : Int)) + 1) + v6)) then
  if (((!x19) = true) ∨ (¬ (gi a0_p.mine v6).player = a0_p.id)) ∨ (¬ (gi a0_p.mine v6).turn = (((a0_p.said - (a0_p.mine.length : Int)) + 1) + v6)) then
  some (St.done (Ex.up false))
  else
  if I64 (v6 + 1) then
  some (St.next (v6 + 1))
  else none
  else none
  else none
  else none
  else none
  else
  some (St.done (Ex.go ()))) 0) fun x => x.then fun _ =>
  some true
  else none
def peer_inputs (a0_p : Per) : Option Bool :=
  Option.bind (α := Ex (Unit) (Bool)) (loop (σ := Int) (β := Ex (Unit) (Bool)) (fun v3 =>
  if v3 < (a0_p.inputs.length : Int) then
  if 0 ≤ v3 ∧ v3 < (a0_p.inputs.length : Int) then
  if ¬ (((gi a0_p.inputs v3).turn < a0_p.turn) ∨ (a0_p.players < (gi a0_p.inputs v3).player)) → (I64 (((gi a0_p.inputs v3).player) - 1)) then
  if ¬ (((gi a0_p.inputs v3).turn < a0_p.turn) ∨ (a0_p.players < (gi a0_p.inputs v3).player)) → (0 ≤ (((gi a0_p.inputs v3).player) - 1) ∧ (((gi a0_p.inputs v3).player) - 1) < (a0_p.has.length : Int)) then
  if (((gi a0_p.inputs v3).turn < a0_p.turn) ∨ (a0_p.players < (gi a0_p.inputs v3).player)) ∨ ((gi a0_p.has (((gi a0_p.inputs v3).player) - 1)) < (gi a0_p.inputs v3).turn) then
  some (St.done (Ex.up false))
  else
  if I64 (v3 + 1) then
  some (St.next (v3 + 1))
  else none
  else none
  else none
  else none
  else
  some (St.done (Ex.go ()))) 0) fun x => x.then fun _ =>
  some true
def peer_May (a0_p : Per) : Option Bool :=
  if (((((((a0_p.players < 1) ∨ (8 < a0_p.players)) ∨ (a0_p.id < 1)) ∨ (a0_p.players < a0_p.id)) ∨ (a0_p.delay < 1)) ∨ (8 < a0_p.delay)) ∨ (a0_p.turn < 0)) ∨ (1099511627776 < a0_p.turn) then
  some false
  else
  if I64 (a0_p.delay - 1) then
  if ¬ (a0_p.said < (a0_p.delay - 1)) → (I64 (a0_p.turn + a0_p.delay)) then
  if ¬ (a0_p.said < (a0_p.delay - 1)) → (I64 ((a0_p.turn + a0_p.delay) - 1)) then
  Option.bind (if ((a0_p.said < (a0_p.delay - 1)) ∨ (((a0_p.turn + a0_p.delay) - 1) < a0_p.said)) ∨ (1099511627776 < a0_p.said) then
  some true
  else
  Option.bind (peer_counts a0_p a0_p.has) fun x57 =>
  some (!x57)) fun b26 =>
  Option.bind (if b26 = true then
  some true
  else
  Option.bind (peer_counts a0_p a0_p.acked) fun x55 =>
  some (!x55)) fun b29 =>
  if b29 = true then
  some false
  else
  Option.bind (slices_Min a0_p.has) fun x31 =>
  if I64 (a0_p.turn - 1) then
  Option.bind (if x31 < (a0_p.turn - 1) then
  some true
  else
  Option.bind (slices_Max a0_p.acked) fun x53 =>
  some (decide (a0_p.said < x53))) fun b35 =>
  if ((b35 = true) ∨ (16 < (a0_p.hashes.length : Int))) ∨ (a0_p.turn < (a0_p.hashes.length : Int)) then
  some false
  else
  Option.bind (peer_mine a0_p) fun x41 =>
  Option.bind (if x41 = true then
  Option.bind (turns_Rising a0_p.inputs) fun x51 =>
  some x51
  else
  some false) fun b44 =>
  Option.bind (if b44 = true then
  Option.bind (peer_inputs a0_p) fun x49 =>
  some x49
  else
  some false) fun b47 =>
  some b47
  else none
  else none
  else none
  else none
def peer_Own (a0_p : Per) : Option Per :=
  Option.bind (turns_OwnAll a0_p.mine) fun x3 =>
  Option.bind (turns_OwnAll a0_p.inputs) fun x5 =>
  Option.bind (slices_Clone_Int a0_p.has) fun x7 =>
  Option.bind (slices_Clone_Int a0_p.acked) fun x9 =>
  Option.bind (slices_Clone_U64 a0_p.hashes) fun x11 =>
  some (⟨a0_p.id, a0_p.players, a0_p.delay, a0_p.turn, a0_p.said, x3, x5, x7, x9, x11, a0_p.split⟩ : Per)
def peer_New (a0_id : Int) (a1_players : Int) (a2_delay : Int) : Option (Per × Int) :=
  if (1 ≤ a1_players) ∧ (a1_players ≤ 8) then
  Option.bind (slices_Repeat_Int [(w64 (a2_delay - 1))] a1_players) fun x7 =>
  Option.bind (slices_Repeat_Int [(w64 (a2_delay - 1))] a1_players) fun x10 =>
  Option.bind (peer_May (⟨a0_id, a1_players, a2_delay, 0, (w64 (a2_delay - 1)), [], [], x7, x10, [], false⟩ : Per)) fun x12 =>
  if (!x12) = true then
  some ((⟨0, 0, 0, 0, 0, [], [], [], [], [], false⟩ : Per), 1)
  else
  some ((⟨a0_id, a1_players, a2_delay, 0, (w64 (a2_delay - 1)), [], [], x7, x10, [], false⟩ : Per), 0)
  else
  Option.bind (peer_May (⟨a0_id, a1_players, a2_delay, 0, (w64 (a2_delay - 1)), [], [], [], [], [], false⟩ : Per)) fun x14 =>
  if (!x14) = true then
  some ((⟨0, 0, 0, 0, 0, [], [], [], [], [], false⟩ : Per), 1)
  else
  some ((⟨a0_id, a1_players, a2_delay, 0, (w64 (a2_delay - 1)), [], [], [], [], [], false⟩ : Per), 0)
def peer_can (a0_p : Per) : Option Bool :=
  Option.bind (slices_Min a0_p.has) fun x2 =>
  some (decide ((a0_p.turn ≤ x2) ∧ (a0_p.turn < 1099511627776)))
def peer_Ready (a0_p : Per) : Option (List Cmd × Bool × Int) :=
  Option.bind (peer_May a0_p) fun x2 =>
  if (!x2) = true then
  some ([], false, 1)
  else
  Option.bind (peer_can a0_p) fun x4 =>
  if (!x4) = true then
  some ([], false, 0)
  else
  Option.bind (turns_Part a0_p.inputs a0_p.turn) fun x6 =>
  Option.bind (turns_All x6.1) fun x9 =>
  some (x9, true, 0)
def peer_Ran (a0_p : Per) (a1_h : UInt64) : Option (Per × Int) :=
  Option.bind (peer_May a0_p) fun x3 =>
  if (!x3) = true then
  some ((⟨0, 0, 0, 0, 0, [], [], [], [], [], false⟩ : Per), 1)
  else
  Option.bind (peer_can a0_p) fun x5 =>
  if (!x5) = true then
  some ((⟨0, 0, 0, 0, 0, [], [], [], [], [], false⟩ : Per), 10)
  else
  Option.bind (peer_Own a0_p) fun x7 =>
  Option.bind (turns_Part x7.inputs x7.turn) fun x13 =>
  if I64 (x7.turn + 1) then
  if x7.hashes.length < 1099511627776 then
  if 16 < ((x7.hashes ++ [a1_h]).length : Int) then
  if 0 ≤ (1 : Int) ∧ (1 : Int) ≤ ((x7.hashes ++ [a1_h]).length : Int) then
  some ((⟨x7.id, x7.players, x7.delay, (x7.turn + 1), x7.said, x7.mine, x13.2, x7.has, x7.acked, ((x7.hashes ++ [a1_h]).drop (1 : Int).toNat), x7.split⟩ : Per), 0)
  else none
  else
  some ((⟨x7.id, x7.players, x7.delay, (x7.turn + 1), x7.said, x7.mine, x13.2, x7.has, x7.acked, (x7.hashes ++ [a1_h]), x7.split⟩ : Per), 0)
  else none
  else none
def peer_Say (a0_p : Per) (a1_l : List Cmd) : Option (Per × Int) :=
  Option.bind (peer_May a0_p) fun x3 =>
  if (!x3) = true then
  some ((⟨0, 0, 0, 0, 0, [], [], [], [], [], false⟩ : Per), 1)
  else
  if I64 (a0_p.turn + a0_p.delay) then
  if I64 ((a0_p.turn + a0_p.delay) - 1) then
  if (a0_p.said = ((a0_p.turn + a0_p.delay) - 1)) ∨ (a0_p.said = 1099511627776) then
  some ((⟨0, 0, 0, 0, 0, [], [], [], [], [], false⟩ : Per), 10)
  else
  Option.bind (turns_Said a0_p.id a1_l) fun x10 =>
  if (!x10) = true then
  some ((⟨0, 0, 0, 0, 0, [], [], [], [], [], false⟩ : Per), 1)
  else
  Option.bind (peer_Own a0_p) fun x12 =>
  if I64 (x12.said + 1) then
  Option.bind (turns_In x12.inputs (⟨(x12.said + 1), x12.id, a1_l⟩ : Inp)) fun x20 =>
  Option.bind (α := List Inp) (if 1 < x12.players then
  Option.bind (turns_Own (⟨(x12.said + 1), x12.id, a1_l⟩ : Inp)) fun x34 =>
  if x12.mine.length + 1 < 1099511627776 then
  some (x12.mine ++ ([x34] : List Inp))
  else none
  else
  some x12.mine) fun v23 =>
  if I64 (x12.id - 1) then
  if I64 (x12.id - 1) then
  if 0 ≤ (x12.id - 1) ∧ (x12.id - 1) < (x12.has.length : Int) then
  if 0 ≤ (x12.id - 1) ∧ (x12.id - 1) < (x12.acked.length : Int) then
  some ((⟨x12.id, x12.players, x12.delay, x12.turn, (x12.said + 1), v23, x20.1, (si x12.has (x12.id - 1) (x12.said + 1)), (si x12.acked (x12.id - 1) (x12.said + 1)), x12.hashes, x12.split⟩ : Per), 0)
  else none
  else none
  else none
  else none
  else none
  else none
  else none
def slices_IndexFunc (a0_s : List Inp) (a1_f : Inp → Option Bool) : Option Int :=
  Option.bind (α := Ex (Unit) (Int)) (loop (σ := Int) (β := Ex (Unit) (Int)) (fun v2 =>
  if v2 < (a0_s.length : Int) then
  if 0 ≤ v2 ∧ v2 < (a0_s.length : Int) then
  Option.bind (a1_f (gi a0_s v2)) fun x14 =>
  if x14 = true then
  some (St.done (Ex.up v2))
  else
  if I64 (v2 + 1) then
  some (St.next (v2 + 1))
  else none
  else none
  else
  some (St.done (Ex.go ()))) 0) fun x => x.then fun _ =>
  some (-1)
def peer_Notes_1 (a0_i : Inp) (c0 : Per) (c1 : Int) : Option Bool :=
  if I64 (c1 - 1) then
  if 0 ≤ (c1 - 1) ∧ (c1 - 1) < (c0.acked.length : Int) then
  if I64 ((gi c0.acked (c1 - 1)) + 1) then
  some (decide (a0_i.turn = ((gi c0.acked (c1 - 1)) + 1)))
  else none
  else none
  else none
def peer_Notes (a0_p : Per) : Option (List Nte × Int) :=
  Option.bind (peer_May a0_p) fun x2 =>
  if (!x2) = true then
  some ([], 1)
  else
  Option.bind (α := Int × List Nte) (loop (σ := List Nte × Int) (β := Int × List Nte) (fun (l10, v12) =>
  if v12 ≤ a0_p.players then
  if v12 = a0_p.id then
  if I64 (v12 + 1) then
  some (St.next (l10, (v12 + 1)))
  else none
  else
  if I64 (v12 - 1) then
  if 0 ≤ (v12 - 1) ∧ (v12 - 1) < (a0_p.has.length : Int) then
  Option.bind (α := Int × UInt64) (if 0 < (a0_p.hashes.length : Int) then
  if I64 (a0_p.turn - 1) then
  if I64 ((a0_p.hashes.length : Int) - 1) then
  if 0 ≤ ((a0_p.hashes.length : Int) - 1) ∧ ((a0_p.hashes.length : Int) - 1) < (a0_p.hashes.length : Int) then
  some ((a0_p.turn - 1), (gi a0_p.hashes ((a0_p.hashes.length : Int) - 1)))
  else none
  else none
  else none
  else
  some ((-1), (0 : UInt64))) fun (v25, v26) =>
  Option.bind (slices_IndexFunc a0_p.mine (fun y0 => peer_Notes_1 y0 a0_p v12)) fun x27 =>
  Option.bind (α := Int × Int × List Cmd) (if 0 ≤ x27 then
  if 0 ≤ x27 ∧ x27 < (a0_p.mine.length : Int) then
  Option.bind (turns_Own (gi a0_p.mine x27)) fun x48 =>
  some (x48.turn, x48.player, x48.commands)
  else none
  else
  some ((-1), 0, [])) fun (v29, v30, v31) =>
  if l10.length + 1 < 1099511627776 then
  if I64 (v12 + 1) then
  some (St.next ((l10 ++ ([(⟨a0_p.id, v12, (⟨v29, v30, v31⟩ : Inp), v25, v26, (gi a0_p.has (v12 - 1))⟩ : Nte)] : List Nte)), (v12 + 1)))
  else none
  else none
  else none
  else none
  else
  some (St.done (v12, l10))) ([], 1)) fun (v6, v8) =>
  some (v8, 0)
def thronglaw28_num (a0_e : Int) : Option Int :=
  some a0_e
def thronglaw28_wakes : Option Bool :=
  Option.bind (peer_New 1 1 1) fun x1 =>
  Option.bind (peer_Ready x1.1) fun x8 =>
  Option.bind (thronglaw28_num x1.2) fun x10 =>
  Option.bind (if x10 = 0 then
  Option.bind (thronglaw28_num x8.2.2) fun x19 =>
  some (decide (x19 = 0))
  else
  some false) fun b13 =>
  some (decide (((b13 = true) ∧ (x8.2.1 = true)) ∧ ((x8.1.length : Int) = 0)))
end Go.Proofs.Ytnadebijiaelkaa
set_option linter.unusedVariables false
set_option linter.unusedSimpArgs false
namespace Go.Proofs.Ytnadebijiaelkaa
open Go.Vg
open Enc (R)
theorem raw_ix {xs : List Raw3} {p : Raw3 → Option Bool} (hl : xs.length < 1099511627776) (hp : ∀ x ∈ xs, ∃ b, p x = some b) : Ok (raw_IndexFunc xs p) (fun i => (i = -1 ∧ ∀ j : Int, 0 ≤ j → j < xs.length → p (gi xs j) = some false) ∨ (0 ≤ i ∧ i < xs.length ∧ p (gi xs i) = some true ∧ ∀ j : Int, 0 ≤ j → j < i → p (gi xs j) = some false)) := by
  unfold raw_IndexFunc
  refine Ok.bind (R := fun x => match x with | .go _ => ∀ j : Int, 0 ≤ j → j < xs.length → p (gi xs j) = some false | .up i => 0 ≤ i ∧ i < xs.length ∧ p (gi xs i) = some true ∧ ∀ j : Int, 0 ≤ j → j < i → p (gi xs j) = some false) (Ok.loop (fun i : Int => 0 ≤ i ∧ i ≤ xs.length ∧ ∀ j : Int, 0 ≤ j → j < i → p (gi xs j) = some false) (fun i => (xs.length - i).toNat) ⟨by omega, by omega, fun j h0 h1 => by omega⟩ (by unfold FUEL; omega) ?_) ?_
  · rintro i ⟨h0, h1, hq⟩
    refine Ok.ite (fun hlt => Ok.gd ⟨h0, hlt⟩ ?_) (fun hlt => Ok.ret ?_)
    · obtain ⟨b, hb⟩ := hp _ (gi_mem ⟨h0, hlt⟩)
      refine Ok.bindE hb (Ok.ite (fun hbt => Ok.ret ?_) (fun hbt => Ok.gd (by unfold I64; omega) (Ok.ret ?_)))
      · exact ⟨h0, hlt, by rw [hb, hbt], hq⟩
      · refine ⟨⟨by omega, by omega, fun j j0 j1 => ?_⟩, by omega⟩
        by_cases hj : j = i
        · subst hj; rw [hb]; cases b <;> simp_all
        · exact hq j j0 (by omega)
    · exact fun j j0 j1 => hq j j0 (by omega)
  · rintro (_ | i) hx
    · exact Ok.ret (.inl ⟨rfl, hx⟩)
    · exact Ok.ret (.inr hx)
theorem set_take {α : Type} {ys : List α} {m : Nat} {x : α} (h : m < ys.length) : (ys.set m x).take (m + 1) = ys.take m ++ [x] := by
  rw [List.take_succ_eq_append_getElem (by simpa using h), List.take_set_of_le (Nat.le_refl _)]
  simp
theorem raw_del {xs : List Raw3} {p : Raw3 → Option Bool} (hl : xs.length < 1099511627776) (hp : ∀ x ∈ xs, ∃ b, p x = some b) : raw_DeleteFunc xs p = some (xs.filter (fun x => p x == some false)) := by
  unfold raw_DeleteFunc
  obtain ⟨i, hi, hix⟩ := raw_ix hl hp
  rw [hi, Option.bind_some]
  have allF : ∀ n : Nat, n ≤ xs.length → (∀ j : Int, 0 ≤ j → j < n → p (gi xs j) = some false) → (xs.take n).filter (fun x => p x == some false) = xs.take n := fun n hn h => by
    rw [List.filter_eq_self]
    intro x hx
    obtain ⟨j, hj, rfl⟩ := List.getElem_of_mem hx
    rw [List.length_take] at hj
    have := h j (by omega) (by omega)
    rw [List.getElem_take]
    have e : gi xs (j : Int) = xs[j]'(by omega) := by simp [gi, List.getD, List.getElem?_eq_getElem (show j < xs.length by omega)]
    rw [← e, this]; rfl
  rcases hix with ⟨rfl, hx⟩ | ⟨h0, h1, ht, hx⟩
  · rw [if_pos rfl]
    have := allF xs.length (Nat.le_refl _) (fun j j0 j1 => hx j j0 j1)
    rw [List.take_length] at this
    rw [this]
  · rw [if_neg (by omega)]
    refine Ok.eq (Ok.gd (by unfold I64; omega) (Ok.bind (R := fun z : Int × List Raw3 => 0 ≤ z.1 ∧ z.1 < xs.length ∧ z.2.take z.1.toNat = xs.filter (fun x => p x == some false)) (Ok.loop (fun z : Int × Int × List Raw3 => 0 ≤ z.1 ∧ z.1 < z.2.1 ∧ z.2.1 ≤ xs.length ∧ z.2.2.length = xs.length ∧ z.2.2.take z.1.toNat = (xs.take z.2.1.toNat).filter (fun x => p x == some false) ∧ z.2.2.drop z.2.1.toNat = xs.drop z.2.1.toNat) (fun z => (xs.length - z.2.1).toNat) ⟨h0, by show i < i + 1; omega, by show i + 1 ≤ _; omega, rfl, ?_, rfl⟩ (by unfold FUEL; dsimp only; omega) ?_) ?_))
    · show xs.take i.toNat = (xs.take (i + 1).toNat).filter _
      rw [take_nextV ⟨h0, h1⟩, List.filter_append, allF _ (by omega) (fun j j0 j1 => hx j j0 (by omega))]
      have : ([gi xs i].filter (fun x => p x == some false)) = [] := by
        rw [List.filter_cons_of_neg (by rw [ht]; decide)]; rfl
      rw [this, List.append_nil]
    · rintro ⟨k, j, ys⟩ ⟨k0, kj, jn, hy, h5, h6⟩
      dsimp only at k0 kj jn hy h5 h6 ⊢
      refine Ok.ite (fun hlt => Ok.gd ⟨by omega, hlt⟩ ?_) (fun hlt => Ok.ret ?_)
      · have hg : gi ys j = gi xs j := by
          have := congrArg (fun l => l[0]?) h6
          simp only [List.getElem?_drop, Nat.add_zero] at this
          simp [gi, List.getD, this]
        rw [hg]
        obtain ⟨b, hb⟩ := hp _ (gi_mem (xs := xs) (j := j) ⟨by omega, hlt⟩)
        have hd1 : xs.drop (j + 1).toNat = (xs.drop j.toNat).drop 1 := by rw [List.drop_drop]; congr 1; omega
        have hd2 : ∀ zs : List Raw3, zs.drop (j + 1).toNat = (zs.drop j.toNat).drop 1 := fun zs => by rw [List.drop_drop]; congr 1; omega
        refine Ok.bindE hb (Ok.ite (fun hbt => Ok.gd ⟨k0, by omega⟩ (Ok.gd (by unfold I64; omega) (Ok.gd (by unfold I64; omega) (Ok.ret ?_)))) (fun hbt => Ok.gd (by unfold I64; omega) (Ok.ret ?_)))
        · have hbf : b = false := by cases b <;> simp_all
          subst hbf
          refine ⟨⟨by show 0 ≤ k + 1; omega, by show k + 1 < j + 1; omega, by show j + 1 ≤ _; omega, by show (si ys k _).length = _; rw [len_si]; exact hy, ?_, ?_⟩, by show (xs.length - (j + 1)).toNat < (xs.length - j).toNat; omega⟩
          · show (si ys k (gi xs j)).take (k + 1).toNat = (xs.take (j + 1).toNat).filter _
            have e1 : (k + 1).toNat = k.toNat + 1 := by omega
            rw [take_nextV ⟨by omega, hlt⟩, List.filter_append, ← h5, List.filter_cons_of_pos (by rw [hb]; decide), e1]
            exact set_take (by omega)
          · show (si ys k (gi xs j)).drop (j + 1).toNat = xs.drop (j + 1).toNat
            have : (si ys k (gi xs j)).drop (j + 1).toNat = ys.drop (j + 1).toNat := List.drop_set_of_lt (by omega)
            rw [this, hd2, hd2, h6]
        · have hbf : b = true := by cases b <;> simp_all
          subst hbf
          refine ⟨⟨k0, by show k < j + 1; omega, by show j + 1 ≤ _; omega, hy, ?_, ?_⟩, by show (xs.length - (j + 1)).toNat < (xs.length - j).toNat; omega⟩
          · show ys.take k.toNat = (xs.take (j + 1).toNat).filter _
            rw [take_nextV ⟨by omega, hlt⟩, List.filter_append, ← h5, List.filter_cons_of_neg (by rw [hb]; decide)]
            simp
          · show ys.drop (j + 1).toNat = xs.drop (j + 1).toNat
            rw [hd2, hd2, h6]
      · have : j.toNat = xs.length := by omega
        rw [this, List.take_length] at h5
        exact ⟨k0, by show k < _; omega, h5⟩
    · rintro ⟨k, ys⟩ ⟨k0, k1, hk⟩
      exact Ok.gd ⟨k0, k1⟩ (Ok.ret hk)
/-! ### Over rows that own memory -/
def slices_DeleteFuncI (a0 : List Inp) (p : Inp → Option Bool) : Option (List Inp) := if (∀ x ∈ a0, (p x).isSome = true ∧ p x = p ⟨x.turn, x.player, []⟩) ∧ a0.length < 1099511627776 then some (a0.filter (fun x => p x == some false)) else none
def rawP (p : Inp → Option Bool) (z : Raw3) : Option Bool := match z.a, z.b with
  | .int .i64 t, .int .i64 q => p ⟨t, q, []⟩
  | _, _ => none
theorem DZ.ints : ∀ {zs : List (Inp × Raw3)} {h : Hp}, DZ h zs → ∀ z ∈ zs, z.2.a = .int .i64 z.1.turn ∧ z.2.b = .int .i64 z.1.player
  | [], _, _, z, hz => by cases hz
  | y :: ys, h, ⟨p, q, a, b, d, l1, l2⟩, z, hz => by
    rcases List.mem_cons.1 hz with rfl | hz
    · obtain ⟨u, e, _⟩ := Deep.toR a
      have e : [z.2.a, z.2.b, z.2.c] = [.int .i64 z.1.turn, .int .i64 z.1.player, u] := e
      simp only [List.cons.injEq] at e
      exact ⟨e.1, e.2.1⟩
    · exact DZ.ints b z hz
theorem slices_DeleteFuncI_walk {w0 : World} {F : Ch} (a0 : List Inp) (p : Inp → Option Bool) {q0 : Option Nat × Nat} {m0 : Nat} (hm : m0 = a0.length) {v0 : Value} (h0 : FnRF Try.prog w0 F v0 (fun (y0 : Inp) c => ∃ u0 : Value, c = [.agg #[.int .i64 y0.turn, .int .i64 y0.player, u0]]) (fun (r : Bool) => .bool r) p) {r : List Inp} (H : slices_DeleteFuncI a0 p = some r) (w : World) (s : Sat w0 [drow 35 (rowV q0 m0) a0, F] w) :
    Calls Try.prog 65 #[rowV q0 m0, v0] w fun e w' => ∃ q : Option Nat × Nat, e = .returned (rowV q r.length) ∧ Sat w0 [drow 35 (rowV q r.length) r, F] w' := by
  unfold slices_DeleteFuncI at H
  obtain ⟨⟨hp, hl⟩, H⟩ := gdE H
  obtain rfl := Option.some.inj H
  obtain ⟨zs, hz, s2⟩ := s.toZ (α := Inp) rfl 0 rfl
  have hzl : (zs.map (·.2)).length = a0.length := by rw [← hz]; simp
  obtain ⟨hh, hd, _⟩ := s2.get 2 rfl
  have hint := DZ.ints hd
  have hpz : ∀ z ∈ zs, rawP p z.2 = p z.1 := fun z hzm => by
    obtain ⟨e1, e2⟩ := hint z hzm
    have hx : z.1 ∈ a0 := by rw [← hz]; exact List.mem_map_of_mem hzm
    unfold rawP
    rw [e1, e2]
    exact (hp _ hx).2.symm
  have h0r : FnF Try.prog w0 (star F (inn zs)) v0 (fun (y0 : Raw3) => [.agg #[y0.a, y0.b, y0.c]]) (fun (r : Bool) => .bool r) (rawP p) := by
    obtain ⟨f, cs, e1, e2, e3⟩ := h0
    refine ⟨f, cs, e1, e2, fun x r w' hs hr => ?_⟩
    have hs2 : Sat w0 [F] w' := (hs.unstarAt 0 rfl).pick [0] (by decide) rfl
    unfold rawP at hr
    split at hr
    · rename_i t q ha hb
      refine e3 ⟨t, q, []⟩ _ r w' ⟨x.c, ?_⟩ hs2 hr
      show [Value.agg #[x.a, x.b, x.c]] = _
      rw [ha, hb]
    · cases hr
  have hdl : raw_DeleteFunc (zs.map (·.2)) (rawP p) = some ((zs.filter (fun z => rawP p z.2 == some false)).map (·.2)) := by
    rw [raw_del (by rw [hzl]; exact hl) (fun x hx => by
      obtain ⟨z, hzm, rfl⟩ := List.mem_map.1 hx
      rw [hpz z hzm]
      have hx : z.1 ∈ a0 := by rw [← hz]; exact List.mem_map_of_mem hzm
      exact Option.isSome_iff_exists.1 (hp _ hx).1), List.filter_map]
    rfl
  have hfst : (zs.filter (fun z => rawP p z.2 == some false)).map (·.1) = a0.filter (fun x => p x == some false) := by
    rw [← hz, List.filter_map]
    congr 1
    exact List.filter_congr (fun z hzm => by rw [hpz z hzm]; rfl)
  have s3 : Sat w0 [row nilH 35 (rowV q0 m0) (zs.map (·.2)), star F (inn zs)] w := ((Sat.starAt 1 2 s2 rfl rfl (by decide)).pick [0, 1] (by decide) rfl)
  refine (raw_DeleteFunc_walk (zs.map (·.2)) (rawP p) (by rw [hzl]; exact hm) h0r hdl w s3).mono ?_
  rintro e w' ⟨q, rfl, s4⟩
  have s5 := s4.unstarAt 1 rfl
  have s6 := s5.weaken 2 rfl (inn (zs.filter (fun z => rawP p z.2 == some false))) (fun _ h => DZ.sub List.filter_sublist h)
  have s7 := s6.ofZ (α := Inp) rfl 0 2 rfl rfl (by decide) (zs := zs.filter (fun z => rawP p z.2 == some false)) rfl
  have hln : ((zs.filter (fun z => rawP p z.2 == some false)).map (·.2)).length = (a0.filter (fun x => p x == some false)).length := by rw [← hfst]; simp
  refine ⟨q, by rw [hln], ?_⟩
  rw [hfst, hln] at s7
  exact s7.pick [0, 1] (by decide) rfl
end Go.Proofs.Ytnadebijiaelkaa
set_option linter.unusedVariables false
set_option linter.unusedSimpArgs false
set_option maxRecDepth 20000
set_option maxHeartbeats 4000000
namespace Go.Proofs.Ytnadebijiaelkaa
open Go.Vg
open Enc (R)
def peer_acked_1 (a0_i : Inp) (c0 : Int) : Option Bool :=
  some (decide (a0_i.turn ≤ c0))
def peer_acked (a0_p : Per) (a1_from : Int) (a2_have : Int) : Option Per :=
  if I64 (a1_from - 1) then
  if 0 ≤ (a1_from - 1) ∧ (a1_from - 1) < (a0_p.acked.length : Int) then
  if (a2_have ≤ (gi a0_p.acked (a1_from - 1))) ∨ (a0_p.said < a2_have) then
  some a0_p
  else
  if I64 (a1_from - 1) then
  if 0 ≤ (a1_from - 1) ∧ (a1_from - 1) < (a0_p.acked.length : Int) then
  Option.bind (slices_Min (si a0_p.acked (a1_from - 1) a2_have)) fun x15 =>
  Option.bind (slices_DeleteFuncI a0_p.mine (fun y0 => peer_acked_1 y0 x15)) fun x17 =>
  some (⟨a0_p.id, a0_p.players, a0_p.delay, a0_p.turn, a0_p.said, x17, a0_p.inputs, a0_p.has, (si a0_p.acked (a1_from - 1) a2_have), a0_p.hashes, a0_p.split⟩ : Per)
  else none
  else none
  else none
  else none
def peer_player (a0_n : Int) : Option Bool :=
  some (decide ((1 ≤ a0_n) ∧ (a0_n ≤ 8)))
def peer_turn (a0_n : Int) : Option Bool :=
  some (decide (((-1) ≤ a0_n) ∧ (a0_n ≤ 1099511627776)))
def peer_MayNote (a0_n : Nte) : Option Bool :=
  Option.bind (peer_player a0_n.frm) fun x2 =>
  Option.bind (if (!x2) = true then
  some true
  else
  Option.bind (peer_player a0_n.dst) fun x30 =>
  some (!x30)) fun b5 =>
  Option.bind (if (b5 = true) ∨ (a0_n.frm = a0_n.dst) then
  some true
  else
  Option.bind (peer_turn a0_n.don) fun x28 =>
  some (!x28)) fun b10 =>
  Option.bind (if b10 = true then
  some true
  else
  Option.bind (peer_turn a0_n.hav) fun x26 =>
  some (!x26)) fun b13 =>
  if (b13 = true) ∨ ((a0_n.don = (-1)) ∧ (¬ (a0_n.hash.toNat : Int) = 0)) then
  some false
  else
  if a0_n.input.turn = (-1) then
  some (decide ((a0_n.input.player = 0) ∧ ((a0_n.input.commands.length : Int) = 0)))
  else
  Option.bind (turns_May a0_n.input) fun x20 =>
  some (decide ((x20 = true) ∧ (a0_n.input.player = a0_n.frm)))
def peer_split (a0_p : Per) (a1_done : Int) (a2_hash : UInt64) : Option Bool :=
  if I64 (a0_p.turn - a1_done) then
  if I64 ((a0_p.hashes.length : Int) - (a0_p.turn - a1_done)) then
  if ((a1_done < a0_p.turn) ∧ (0 ≤ ((a0_p.hashes.length : Int) - (a0_p.turn - a1_done)))) → (0 ≤ ((a0_p.hashes.length : Int) - (a0_p.turn - a1_done)) ∧ ((a0_p.hashes.length : Int) - (a0_p.turn - a1_done)) < (a0_p.hashes.length : Int)) then
  some (decide (((a1_done < a0_p.turn) ∧ (0 ≤ ((a0_p.hashes.length : Int) - (a0_p.turn - a1_done)))) ∧ (¬ ((gi a0_p.hashes ((a0_p.hashes.length : Int) - (a0_p.turn - a1_done))).toNat : Int) = (a2_hash.toNat : Int))))
  else none
  else none
  else none
def peer_Take (a0_p : Per) (a1_n : Nte) : Option (Per × Int) :=
  Option.bind (peer_May a0_p) fun x4 =>
  Option.bind (if (!x4) = true then
  some true
  else
  Option.bind (peer_MayNote a1_n) fun x49 =>
  some (!x49)) fun b7 =>
  if ((b7 = true) ∨ (¬ a1_n.dst = a0_p.id)) ∨ (a0_p.players < a1_n.frm) then
  some ((⟨0, 0, 0, 0, 0, [], [], [], [], [], false⟩ : Per), 1)
  else
  if I64 (a0_p.turn + 16) then
  if (a0_p.turn + 16) < a1_n.input.turn then
  some ((⟨0, 0, 0, 0, 0, [], [], [], [], [], false⟩ : Per), 4)
  else
  Option.bind (peer_Own a0_p) fun x15 =>
  if I64 (a1_n.frm - 1) then
  if 0 ≤ (a1_n.frm - 1) ∧ (a1_n.frm - 1) < (x15.has.length : Int) then
  if I64 ((gi x15.has (a1_n.frm - 1)) + 1) then
  Option.bind (α := List Int × List Inp) (if a1_n.input.turn = ((gi x15.has (a1_n.frm - 1)) + 1) then
  Option.bind (turns_In x15.inputs a1_n.input) fun x42 =>
  if I64 (a1_n.frm - 1) then
  if 0 ≤ (a1_n.frm - 1) ∧ (a1_n.frm - 1) < (x15.has.length : Int) then
  if I64 ((gi x15.has (a1_n.frm - 1)) + 1) then
  if 0 ≤ (a1_n.frm - 1) ∧ (a1_n.frm - 1) < (x15.has.length : Int) then
  some ((si x15.has (a1_n.frm - 1) ((gi x15.has (a1_n.frm - 1)) + 1)), x42.1)
  else none
  else none
  else none
  else none
  else
  some (x15.has, x15.inputs)) fun (v27, v28) =>
  Option.bind (peer_acked (⟨x15.id, x15.players, x15.delay, x15.turn, x15.said, x15.mine, v28, v27, x15.acked, x15.hashes, x15.split⟩ : Per) a1_n.frm a1_n.hav) fun x30 =>
  Option.bind (if x30.split = true then
  some true
  else
  Option.bind (peer_split x30 a1_n.don a1_n.hash) fun x40 =>
  some x40) fun b38 =>
  some ((⟨x30.id, x30.players, x30.delay, x30.turn, x30.said, x30.mine, x30.inputs, x30.has, x30.acked, x30.hashes, b38⟩ : Per), 0)
  else none
  else none
  else none
  else none
end Go.Proofs.Ytnadebijiaelkaa
set_option linter.unusedVariables false
set_option linter.unusedSimpArgs false
set_option maxRecDepth 20000
set_option maxHeartbeats 4000000
namespace Go.Proofs.Ytnadebijiaelkaa
open Go.Vg
open Enc (R)
def throngref0_CopyHashes (a0_l : List UInt64) : Option (List UInt64) :=
  Option.bind (α := List UInt64) (loop (σ := List UInt64 × Int) (β := List UInt64) (fun (l4, v6) =>
  if v6 < (a0_l.length : Int) then
  if 0 ≤ v6 ∧ v6 < (a0_l.length : Int) then
  if l4.length < 1099511627776 then
  if I64 (v6 + 1) then
  some (St.next ((l4 ++ [(gi a0_l v6)]), (v6 + 1)))
  else none
  else none
  else none
  else
  some (St.done l4)) ([], 0)) fun v2 =>
  some v2
def throngref0_CopyNote (a0_a : Nte) : Option Nte :=
  Option.bind (throngref0_CopyInput a0_a.input) fun x4 =>
  some (⟨a0_a.frm, a0_a.dst, x4, a0_a.don, a0_a.hash, a0_a.hav⟩ : Nte)
def throngref0_CopyPeer (a0_a : Per) : Option Per :=
  Option.bind (throngref0_CopyInputs a0_a.mine) fun x4 =>
  Option.bind (throngref0_CopyInputs a0_a.inputs) fun x6 =>
  Option.bind (throngref0_CopyNumbers a0_a.has) fun x8 =>
  Option.bind (throngref0_CopyNumbers a0_a.acked) fun x10 =>
  Option.bind (throngref0_CopyHashes a0_a.hashes) fun x12 =>
  some (⟨a0_a.id, a0_a.players, a0_a.delay, a0_a.turn, a0_a.said, x4, x6, x8, x10, x12, a0_a.split⟩ : Per)
def throngref27_May (a0_i : Inp) : Option Bool :=
  Option.bind (throngref0_Num a0_i.turn 1099511627776) fun x2 =>
  if ((((!x2) = true) ∨ (a0_i.player < 1)) ∨ (8 < a0_i.player)) ∨ (64 < (a0_i.commands.length : Int)) then
  some false
  else
  Option.bind (α := Ex (Unit) (Bool)) (loop (σ := Int) (β := Ex (Unit) (Bool)) (fun v11 =>
  if v11 < (a0_i.commands.length : Int) then
  if 0 ≤ v11 ∧ v11 < (a0_i.commands.length : Int) then
  Option.bind (throngref21_Command (gi a0_i.commands v11)) fun x24 =>
  if ¬ (((!x24) = true) ∨ (¬ (gi a0_i.commands v11).player = a0_i.player)) → ((0 < v11) → (I64 (v11 - 1))) then
  if ¬ (((!x24) = true) ∨ (¬ (gi a0_i.commands v11).player = a0_i.player)) → ((0 < v11) → (0 ≤ (v11 - 1) ∧ (v11 - 1) < (a0_i.commands.length : Int))) then
  if (((!x24) = true) ∨ (¬ (gi a0_i.commands v11).player = a0_i.player)) ∨ ((0 < v11) ∧ ((gi a0_i.commands v11).seq ≤ (gi a0_i.commands (v11 - 1)).seq)) then
  some (St.done (Ex.up false))
  else
  if I64 (v11 + 1) then
  some (St.next (v11 + 1))
  else none
  else none
  else none
  else none
  else
  some (St.done (Ex.go ()))) 0) fun x => x.then fun _ =>
  some true
def throngref27_ahead (a0_a : Inp) (a1_b : Inp) : Option Bool :=
  some (decide ((a0_a.turn < a1_b.turn) ∨ ((a0_a.turn = a1_b.turn) ∧ (a0_a.player < a1_b.player))))
def throngref27_List (a0_l : List Inp) : Option Bool :=
  Option.bind (α := Ex (Unit) (Bool)) (loop (σ := Int) (β := Ex (Unit) (Bool)) (fun v2 =>
  if v2 < (a0_l.length : Int) then
  if 0 ≤ v2 ∧ v2 < (a0_l.length : Int) then
  Option.bind (throngref27_May (gi a0_l v2)) fun x14 =>
  Option.bind (if (!x14) = true then
  some true
  else
  Option.bind (if 0 < v2 then
  if I64 (v2 - 1) then
  if 0 ≤ (v2 - 1) ∧ (v2 - 1) < (a0_l.length : Int) then
  if 0 ≤ v2 ∧ v2 < (a0_l.length : Int) then
  Option.bind (throngref27_ahead (gi a0_l (v2 - 1)) (gi a0_l v2)) fun x40 =>
  some (!x40)
  else none
  else none
  else none
  else
  some false) fun b23 =>
  some b23) fun b17 =>
  if b17 = true then
  some (St.done (Ex.up false))
  else
  if I64 (v2 + 1) then
  some (St.next (v2 + 1))
  else none
  else none
  else
  some (St.done (Ex.go ()))) 0) fun x => x.then fun _ =>
  some true
def throngref27_least (a0_l : List Int) : Option Int :=
  if 0 ≤ (0 : Int) ∧ (0 : Int) < (a0_l.length : Int) then
  Option.bind (α := Int) (loop (σ := Int × Int) (β := Int) (fun (v6, v7) =>
  if v7 < (a0_l.length : Int) then
  if 0 ≤ v7 ∧ v7 < (a0_l.length : Int) then
  if I64 (v7 + 1) then
  some (St.next ((min v6 (gi a0_l v7)), (v7 + 1)))
  else none
  else none
  else
  some (St.done v6)) ((gi a0_l (0 : Int)), 1)) fun v5 =>
  some v5
  else none
def throngref27_Peer (a0_p : Per) : Option Bool :=
  Option.bind (if (((((a0_p.players < 1) ∨ (8 < a0_p.players)) ∨ (a0_p.id < 1)) ∨ (a0_p.players < a0_p.id)) ∨ (a0_p.delay < 1)) ∨ (8 < a0_p.delay) then
  some true
  else
  Option.bind (throngref0_Num a0_p.turn 1099511627776) fun x106 =>
  some (!x106)) fun b14 =>
  if ¬ (b14 = true) → (I64 (a0_p.delay - 1)) then
  if ¬ ((b14 = true) ∨ (a0_p.said < (a0_p.delay - 1))) → (I64 (a0_p.turn + a0_p.delay)) then
  if ¬ ((b14 = true) ∨ (a0_p.said < (a0_p.delay - 1))) → (I64 ((a0_p.turn + a0_p.delay) - 1)) then
  Option.bind (if ((b14 = true) ∨ (a0_p.said < (a0_p.delay - 1))) ∨ ((min ((a0_p.turn + a0_p.delay) - 1) 1099511627776) < a0_p.said) then
  some true
  else
  Option.bind (throngref27_List a0_p.inputs) fun x104 =>
  some (!x104)) fun b24 =>
  Option.bind (if b24 = true then
  some true
  else
  Option.bind (throngref27_List a0_p.mine) fun x102 =>
  some (!x102)) fun b27 =>
  if ((((b27 = true) ∨ (¬ (a0_p.has.length : Int) = a0_p.players)) ∨ (¬ (a0_p.acked.length : Int) = a0_p.players)) ∨ (16 < (a0_p.hashes.length : Int))) ∨ (a0_p.turn < (a0_p.hashes.length : Int)) then
  some false
  else
  if I64 (a0_p.turn + 16) then
  if I64 (a0_p.delay - 1) then
  if I64 (a0_p.turn - 1) then
  Option.bind (throngref0_Between a0_p.has (max (a0_p.delay - 1) (a0_p.turn - 1)) (min (a0_p.turn + 16) 1099511627776)) fun x40 =>
  Option.bind (if (!x40) = true then
  some true
  else
  if I64 (a0_p.delay - 1) then
  Option.bind (throngref0_Between a0_p.acked (a0_p.delay - 1) a0_p.said) fun x100 =>
  some (!x100)
  else none) fun b43 =>
  if ¬ (b43 = true) → (I64 (a0_p.id - 1)) then
  if ¬ (b43 = true) → (0 ≤ (a0_p.id - 1) ∧ (a0_p.id - 1) < (a0_p.has.length : Int)) then
  if ¬ ((b43 = true) ∨ (¬ (gi a0_p.has (a0_p.id - 1)) = a0_p.said)) → (I64 (a0_p.id - 1)) then
  if ¬ ((b43 = true) ∨ (¬ (gi a0_p.has (a0_p.id - 1)) = a0_p.said)) → (0 ≤ (a0_p.id - 1) ∧ (a0_p.id - 1) < (a0_p.acked.length : Int)) then
  if ((b43 = true) ∨ (¬ (gi a0_p.has (a0_p.id - 1)) = a0_p.said)) ∨ (¬ (gi a0_p.acked (a0_p.id - 1)) = a0_p.said) then
  some false
  else
  Option.bind (α := Ex (Unit) (Bool)) (loop (σ := Int) (β := Ex (Unit) (Bool)) (fun v71 =>
  if v71 < (a0_p.inputs.length : Int) then
  if 0 ≤ v71 ∧ v71 < (a0_p.inputs.length : Int) then
  if ¬ (((gi a0_p.inputs v71).turn < a0_p.turn) ∨ (a0_p.players < (gi a0_p.inputs v71).player)) → (I64 (((gi a0_p.inputs v71).player) - 1)) then
  if ¬ (((gi a0_p.inputs v71).turn < a0_p.turn) ∨ (a0_p.players < (gi a0_p.inputs v71).player)) → (0 ≤ (((gi a0_p.inputs v71).player) - 1) ∧ (((gi a0_p.inputs v71).player) - 1) < (a0_p.has.length : Int)) then
  if (((gi a0_p.inputs v71).turn < a0_p.turn) ∨ (a0_p.players < (gi a0_p.inputs v71).player)) ∨ ((gi a0_p.has (((gi a0_p.inputs v71).player) - 1)) < (gi a0_p.inputs v71).turn) then
  some (St.done (Ex.up false))
  else
  if I64 (v71 + 1) then
  some (St.next (v71 + 1))
  else none
  else none
  else none
  else none
  else
  some (St.done (Ex.go ()))) 0) fun x => x.then fun _ =>
  Option.bind (throngref27_least a0_p.acked) fun x54 =>
  if I64 (a0_p.said - x54) then
  if ¬ (a0_p.mine.length : Int) = (a0_p.said - x54) then
  some false
  else
  Option.bind (α := Ex (Unit) (Bool)) (loop (σ := Int) (β := Ex (Unit) (Bool)) (fun v58 =>
  if v58 < (a0_p.mine.length : Int) then
  if 0 ≤ v58 ∧ v58 < (a0_p.mine.length : Int) then
  if ¬ (¬ (gi a0_p.mine v58).player = a0_p.id) → (0 ≤ v58 ∧ v58 < (a0_p.mine.length : Int)) then
  if ¬ (¬ (gi a0_p.mine v58).player = a0_p.id) → (I64 (x54 + 1)) then
  if ¬ (¬ (gi a0_p.mine v58).player = a0_p.id) → (I64 ((x54 + 1) + v58)) then
  if (¬ (gi a0_p.mine v58).player = a0_p.id) ∨ (¬ (gi a0_p.mine v58).turn = ((x54 + 1) + v58)) then
  some (St.done (Ex.up false))
  else
  if I64 (v58 + 1) then
  some (St.next (v58 + 1))
  else none
  else none
  else none
  else none
  else none
  else
  some (St.done (Ex.go ()))) 0) fun x => x.then fun _ =>
  some true
  else none
  else none
  else none
  else none
  else none
  else none
  else none
  else none
  else none
  else none
  else none
def thronglaw28_heavy (a0_p : Scr28) : Option Bool :=
  Option.bind (thronglaw0_InputsWeight a0_p.p.mine) fun x2 =>
  Option.bind (thronglaw0_InputsWeight a0_p.p.inputs) fun x3 =>
  if I64 (x2 + x3) then
  if I64 ((x2 + x3) + (a0_p.p.has.length : Int)) then
  if I64 (((x2 + x3) + (a0_p.p.has.length : Int)) + (a0_p.p.acked.length : Int)) then
  if I64 ((((x2 + x3) + (a0_p.p.has.length : Int)) + (a0_p.p.acked.length : Int)) + (a0_p.p.hashes.length : Int)) then
  Option.bind (α := Int) (loop (σ := Int × Int) (β := Int) (fun (v12, v13) =>
  if (v13 < (a0_p.l.length : Int)) ∧ (v12 < 1048576) then
  if 0 ≤ v13 ∧ v13 < (a0_p.l.length : Int) then
  Option.bind (thronglaw0_CommandsWeight ((gi a0_p.l v13).l)) fun x30 =>
  if I64 (v12 + x30) then
  if 0 ≤ v13 ∧ v13 < (a0_p.l.length : Int) then
  Option.bind (thronglaw0_CommandsWeight ((((gi a0_p.l v13).n).input).commands)) fun x42 =>
  if I64 ((v12 + x30) + x42) then
  if I64 (v13 + 1) then
  some (St.next (((v12 + x30) + x42), (v13 + 1)))
  else none
  else none
  else none
  else none
  else none
  else
  some (St.done v12)) (((((x2 + x3) + (a0_p.p.has.length : Int)) + (a0_p.p.acked.length : Int)) + (a0_p.p.hashes.length : Int)), 0)) fun v9 =>
  some (decide ((2000 < v9) ∨ (60 < (a0_p.l.length : Int))))
  else none
  else none
  else none
  else none
def thronglaw28_fit (a0_p : Per) (a1_a : Act28) : Option Nte :=
  Option.bind (throngref0_CopyNote a1_a.n) fun x4 =>
  Option.bind (if (!a1_a.fit) = true then
  some true
  else
  Option.bind (throngref27_Peer a0_p) fun x70 =>
  some (!x70)) fun b9 =>
  if (b9 = true) ∨ (a0_p.players < 2) then
  some x4
  else
  Option.bind (α := Int) (if ((x4.frm < 1) ∨ (a0_p.players < x4.frm)) ∨ (x4.frm = a0_p.id) then
  if 0 ≤ a0_p.id ∧ a0_p.id ≤ 9223372036854775807 ∧ (1 : Int) ≤ a0_p.players then
  if I64 ((a0_p.id % a0_p.players) + 1) then
  some ((a0_p.id % a0_p.players) + 1)
  else none
  else none
  else
  some x4.frm) fun v18 =>
  Option.bind (α := Int × Int × List Cmd) (if 0 ≤ x4.input.turn then
  if I64 (v18 - 1) then
  if 0 ≤ (v18 - 1) ∧ (v18 - 1) < (a0_p.has.length : Int) then
  if I64 ((gi a0_p.has (v18 - 1)) + 1) then
  Option.bind (thronglaw0_Within x4.input.turn 3) fun x52 =>
  if 0 ≤ x52 ∧ x52 ≤ 9223372036854775807 then
  if I64 (((gi a0_p.has (v18 - 1)) + 1) - (x52 / 2)) then
  Option.bind (α := List Cmd) (loop (σ := Int × List Cmd) (β := List Cmd) (fun (v57, l58) =>
  if v57 < (x4.input.commands.length : Int) then
  if 0 ≤ v57 ∧ v57 < (x4.input.commands.length : Int) then
  if I64 (v57 + 1) then
  some (St.next ((v57 + 1), (si l58 v57 (⟨v18, (gi l58 v57).seq, (gi l58 v57).kind, (gi l58 v57).n, (gi l58 v57).units, (gi l58 v57).tile, (gi l58 v57).w, (gi l58 v57).h, ((gi l58 v57).pos)⟩ : Cmd))))
  else none
  else none
  else
  some (St.done l58)) (0, x4.input.commands)) fun v56 =>
  some ((((gi a0_p.has (v18 - 1)) + 1) - (x52 / 2)), v18, v56)
  else none
  else none
  else none
  else none
  else none
  else
  some (x4.input.turn, x4.input.player, x4.input.commands)) fun (v20, v21, v22) =>
  Option.bind (α := Int × UInt64) (if 0 ≤ x4.don then
  if I64 (a0_p.turn - 1) then
  Option.bind (thronglaw0_Within x4.don 4) fun x30 =>
  if I64 ((a0_p.turn - 1) - x30) then
  Option.bind (α := UInt64) (if (max (-1) ((a0_p.turn - 1) - x30)) = (-1) then
  some (0 : UInt64)
  else
  some x4.hash) fun v33 =>
  if I64 (a0_p.turn - (a0_p.hashes.length : Int)) then
  if I64 ((max (-1) ((a0_p.turn - 1) - x30)) - (a0_p.turn - (a0_p.hashes.length : Int))) then
  if 0 ≤ (a1_a.h.toNat : Int) ∧ (1 : Int) ≤ 4 then
  if ((¬ ((a1_a.h.toNat : Int) % 4) = 0) ∧ (0 ≤ (max (-1) ((a0_p.turn - 1) - x30)))) ∧ (0 ≤ ((max (-1) ((a0_p.turn - 1) - x30)) - (a0_p.turn - (a0_p.hashes.length : Int)))) then
  if 0 ≤ ((max (-1) ((a0_p.turn - 1) - x30)) - (a0_p.turn - (a0_p.hashes.length : Int))) ∧ ((max (-1) ((a0_p.turn - 1) - x30)) - (a0_p.turn - (a0_p.hashes.length : Int))) < (a0_p.hashes.length : Int) then
  some ((max (-1) ((a0_p.turn - 1) - x30)), (gi a0_p.hashes ((max (-1) ((a0_p.turn - 1) - x30)) - (a0_p.turn - (a0_p.hashes.length : Int)))))
  else none
  else
  some ((max (-1) ((a0_p.turn - 1) - x30)), v33)
  else none
  else none
  else none
  else none
  else none
  else
  some (x4.don, x4.hash)) fun (v24, v25) =>
  Option.bind (thronglaw0_Within x4.hav 4) fun x26 =>
  if I64 (a0_p.said - x26) then
  some (⟨v18, a0_p.id, (⟨v20, v21, v22⟩ : Inp), v24, v25, (max (-1) (a0_p.said - x26))⟩ : Nte)
  else none
end Go.Proofs.Ytnadebijiaelkaa
set_option linter.unusedVariables false
set_option linter.unusedSimpArgs false
set_option maxRecDepth 20000
set_option maxHeartbeats 4000000
namespace Go.Proofs.Ytnadebijiaelkaa
open Go.Vg
open Enc (R)
def thronglaw28_PeerAgree (a0_q : Wld28) : Option Bool :=
  Option.bind (thronglaw0_Within a0_q.n 4) fun x2 =>
  if I64 (1 + x2) then
  Option.bind (thronglaw0_Within a0_q.delay 8) fun x4 =>
  if I64 (1 + x4) then
  if 300 < (a0_q.l.length : Int) then
  some true
  else
  Option.bind (α := Ex (List Per) (Bool)) (loop (σ := Int × List Per) (β := Ex (List Per) (Bool)) (fun (v546, l548) =>
  if v546 ≤ (1 + x2) then
  Option.bind (peer_New v546 (1 + x2) (1 + x4)) fun x552 =>
  Option.bind (thronglaw28_num x552.2) fun x559 =>
  if ¬ x559 = 0 then
  some (St.done (Ex.up false))
  else
  if l548.length + 1 < 837723144972 then
  if I64 (v546 + 1) then
  some (St.next ((v546 + 1), (l548 ++ ([x552.1] : List Per))))
  else none
  else none
  else
  some (St.done (Ex.go l548))) (1, ([] : List Per))) fun x => x.then fun v9 =>
  Option.bind (α := Ex (List Per) (Bool)) (loop (σ := Int × Int × List Per × List Nte × List (List Cmd)) (β := Ex (List Per) (Bool)) (fun (v25, v26, l28, l29, l31) =>
  if (v26 < (a0_q.l.length : Int)) ∧ ((l29.length : Int) < 3000) then
  Option.bind (α := Ex (Int × List Per × List (List Cmd) × List Nte) (St (Int × Int × List Per × List Nte × List (List Cmd)) (Ex (List Per) (Bool)))) (if 0 ≤ v26 ∧ v26 < (a0_q.l.length : Int) then
  Option.bind (thronglaw0_Within ((gi a0_q.l v26).peer) (1 + x2)) fun x50 =>
  Option.bind (thronglaw0_Within ((gi a0_q.l v26).act) 7) fun x51 =>
  Option.bind (α := Ex (Int × Int × List Per × List Nte) (Ex (Int × List Per × List (List Cmd) × List Nte) (St (Int × Int × List Per × List Nte × List (List Cmd)) (Ex (List Per) (Bool))))) (if ((3 ≤ x51) ∧ (x51 ≤ 4)) ∨ ((l29.length : Int) = 0) then
  if I64 (v25 + 1) then
  if 0 ≤ x50 ∧ x50 < (v9.length : Int) then
  if I64 (x50 + 1) then
  Option.bind (peer_Say (gi l28 x50) ([(⟨(x50 + 1), (v25 + 1), 5, 1, [], 0, 0, 0, (⟨0, 0⟩ : Vec)⟩ : Cmd)] : List Cmd)) fun x198 =>
  Option.bind (thronglaw28_num x198.2) fun x205 =>
  Option.bind (α := Ex (List Per) (Ex (Int × Int × List Per × List Nte) (Ex (Int × List Per × List (List Cmd) × List Nte) (St (Int × Int × List Per × List Nte × List (List Cmd)) (Ex (List Per) (Bool)))))) (if x205 = 0 then
  if 0 ≤ x50 ∧ x50 < (v9.length : Int) then
  some (Ex.go (si l28 x50 x198.1))
  else none
  else
  Option.bind (thronglaw28_num x198.2) fun x247 =>
  if ¬ x247 = 10 then
  some (Ex.up (Ex.up (Ex.up (St.done (Ex.up false)))))
  else
  some (Ex.go l28)) fun x => x.then fun v208 =>
  if 0 ≤ x50 ∧ x50 < (v9.length : Int) then
  Option.bind (peer_Notes (gi v208 x50)) fun x231 =>
  Option.bind (thronglaw28_num x231.2) fun x233 =>
  if ¬ (¬ x233 = 0) → (I64 ((1 + x2) - 1)) then
  if (¬ x233 = 0) ∨ (¬ (x231.1.length : Int) = ((1 + x2) - 1)) then
  some (Ex.up (Ex.up (St.done (Ex.up false))))
  else
  if l29.length + x231.1.length < 1099511627776 then
  some (Ex.go ((v25 + 1), x50, v208, (l29 ++ x231.1)))
  else none
  else none
  else none
  else none
  else none
  else none
  else
  Option.bind (thronglaw0_Within ((gi a0_q.l v26).k) (l29.length : Int)) fun x249 =>
  if 0 ≤ x249 ∧ x249 < (l29.length : Int) then
  if x51 = 6 then
  if l29.length + 1 < 1099511627776 then
  some (Ex.up (Ex.go (v25, l28, l31, (l29 ++ ([(gi l29 x249)] : List Nte)))))
  else none
  else
  if 0 ≤ x249 ∧ x249 ≤ (l29.length : Int) then
  if I64 (x249 + 1) then
  if 0 ≤ (x249 + 1) ∧ (x249 + 1) ≤ (l29.length : Int) then
  if ([] : List Nte).length + (l29.take x249.toNat).length < 1099511627776 then
  if (([] : List Nte) ++ (l29.take x249.toNat)).length + (l29.drop (x249 + 1).toNat).length < 1099511627776 then
  if x51 = 5 then
  some (Ex.up (Ex.go (v25, l28, l31, ((([] : List Nte) ++ (l29.take x249.toNat)) ++ (l29.drop (x249 + 1).toNat)))))
  else
  if I64 (((gi l29 x249).dst) - 1) then
  if ((((gi l29 x249).dst) - 1) < 0) ∨ ((1 + x2) ≤ (((gi l29 x249).dst) - 1)) then
  some (Ex.up (Ex.up (St.done (Ex.up false))))
  else
  Option.bind (α := Int × Int × Int × Int × Int × Bool × Int × List Inp × List Inp × List Int × List Int × List UInt64) (if 0 ≤ (((gi l29 x249).dst) - 1) ∧ (((gi l29 x249).dst) - 1) < (v9.length : Int) then
  Option.bind (peer_Take (gi l28 (((gi l29 x249).dst) - 1)) (gi l29 x249)) fun x334 =>
  some (x334.1.id, x334.1.players, x334.1.delay, x334.1.turn, x334.1.said, x334.1.split, x334.2, x334.1.mine, x334.1.inputs, x334.1.has, x334.1.acked, x334.1.hashes)
  else none) fun (v285, v286, v287, v288, v289, v290, v291, v292, v294, v296, v298, v300) =>
  Option.bind (thronglaw28_num v291) fun x302 =>
  if ¬ x302 = 0 then
  some (Ex.up (Ex.up (St.done (Ex.up false))))
  else
  if 0 ≤ (((gi l29 x249).dst) - 1) ∧ (((gi l29 x249).dst) - 1) < (v9.length : Int) then
  some (Ex.go (v25, (((gi l29 x249).dst) - 1), (si l28 (((gi l29 x249).dst) - 1) (⟨v285, v286, v287, v288, v289, v292, v294, v296, v298, v300, v290⟩ : Per)), ((([] : List Nte) ++ (l29.take x249.toNat)) ++ (l29.drop (x249 + 1).toNat))))
  else none
  else none
  else none
  else none
  else none
  else none
  else none
  else none) fun x => x.then fun (v57, v58, v60, v61) =>
  Option.bind (α := Ex (List Per × List (List Cmd)) (Ex (Int × List Per × List (List Cmd) × List Nte) (St (Int × Int × List Per × List Nte × List (List Cmd)) (Ex (List Per) (Bool))))) (loop (σ := List Per × List (List Cmd)) (β := Ex (List Per × List (List Cmd)) (Ex (Int × List Per × List (List Cmd) × List Nte) (St (Int × Int × List Per × List Nte × List (List Cmd)) (Ex (List Per) (Bool))))) (fun (l69, l70) =>
  if 0 ≤ v58 ∧ v58 < (v9.length : Int) then
  Option.bind (peer_Ready (gi l69 v58)) fun x97 =>
  Option.bind (thronglaw28_num x97.2.2) fun x99 =>
  if ¬ x99 = 0 then
  some (St.done (Ex.up (Ex.up (St.done (Ex.up false)))))
  else
  if (!x97.2.1) = true then
  some (St.done (Ex.go (l69, l70)))
  else
  if 0 ≤ v58 ∧ v58 < (v9.length : Int) then
  Option.bind (α := Ex (List (List Cmd)) (St (List Per × List (List Cmd)) (Ex (List Per × List (List Cmd)) (Ex (Int × List Per × List (List Cmd) × List Nte) (St (Int × Int × List Per × List Nte × List (List Cmd)) (Ex (List Per) (Bool))))))) (if (gi l69 v58).turn < (l70.length : Int) then
  if 0 ≤ (gi l69 v58).turn ∧ (gi l69 v58).turn < (l70.length : Int) then
  Option.bind (throngref0_EqCommands (gi l70 ((gi l69 v58).turn)) x97.1) fun x161 =>
  if (!x161) = true then
  some (Ex.up (St.done (Ex.up (Ex.up (St.done (Ex.up false))))))
  else
  some (Ex.go l70)
  else none
  else
  Option.bind (throngref0_CopyCommands x97.1) fun x163 =>
  if l70.length + 1 < 1099511627776 then
  some (Ex.go (l70 ++ ([x163] : List (List Cmd))))
  else none) fun x => x.then fun v106 =>
  if 0 ≤ v58 ∧ v58 < (v9.length : Int) then
  if I64 (1000 + ((gi l69 v58).turn)) then
  Option.bind (peer_Ran (gi l69 v58) (UInt64.ofNat ((1000 + ((gi l69 v58).turn)) % 18446744073709551616).toNat)) fun x131 =>
  Option.bind (thronglaw28_num x131.2) fun x140 =>
  if ¬ (¬ x140 = 0) → (I64 (((gi l69 v58).turn) + 1)) then
  if (¬ x140 = 0) ∨ (¬ x131.1.turn = (((gi l69 v58).turn) + 1)) then
  some (St.done (Ex.up (Ex.up (St.done (Ex.up false)))))
  else
  if 0 ≤ v58 ∧ v58 < (v9.length : Int) then
  some (St.next ((si l69 v58 x131.1), v106))
  else none
  else none
  else none
  else none
  else none
  else none) (v60, l31)) fun x => x.then fun (v65, v66) =>
  some (Ex.go (v57, v65, v66, v61))
  else none) fun x => x.then fun (v38, v40, v41, v43) =>
  if I64 (v26 + 1) then
  some (St.next (v38, (v26 + 1), v40, v43, v41))
  else none
  else
  some (St.done (Ex.go l28))) (0, 0, v9, ([] : List Nte), ([] : List (List Cmd)))) fun x => x.then fun v13 =>
  Option.bind (α := Ex (Unit) (Bool)) (loop (σ := Int) (β := Ex (Unit) (Bool)) (fun v16 =>
  if v16 < (1 + x2) then
  if 0 ≤ v16 ∧ v16 < (v9.length : Int) then
  if ((gi v13 v16).split) = true then
  some (St.done (Ex.up false))
  else
  if I64 (v16 + 1) then
  some (St.next (v16 + 1))
  else none
  else none
  else
  some (St.done (Ex.go ()))) 0) fun x => x.then fun _ =>
  Option.bind (thronglaw28_wakes) fun x15 =>
  some x15
  else none
  else none
end Go.Proofs.Ytnadebijiaelkaa
