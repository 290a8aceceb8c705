/-
  The statements of the portals and all that they call, as pure functions.
-/
import Derived.Test.YtddicdmleeaihaaRows
import Derived.Test.YtddicdmleeaihaaSF
import Derived.Test.YtddicdmleeaihaaPQS
set_option linter.unusedVariables false
set_option linter.unusedSimpArgs false
set_option maxRecDepth 20000
set_option maxHeartbeats 4000000
namespace Go.Proofs.Ytddicdmleeaihaa
open Go.Vg
open Enc (R)
open Sp
def ground_Side (a0_n : Int) : Option Bool :=
  some (decide ((1 ≤ a0_n) ∧ (a0_n ≤ 128)))
def sector_May (a0_w : Int) (a1_h : Int) : Option Bool :=
  Option.bind (ground_Side a0_w) fun x1 =>
  Option.bind (if x1 = true then
  Option.bind (ground_Side a1_h) fun x6 =>
  some x6
  else
  some false) fun b4 =>
  some b4
def sector_across (a0_n : Int) : Option Int :=
  if I64 (a0_n + 8) then
  if I64 ((a0_n + 8) - 1) then
  if 0 ≤ ((a0_n + 8) - 1) ∧ ((a0_n + 8) - 1) ≤ 9223372036854775807 then
  some (((a0_n + 8) - 1) / 8)
  else none
  else none
  else none
def sector_At (a0_w : Int) (a1_t : Int) : Option Int :=
  if 0 ≤ a1_t ∧ a1_t ≤ 9223372036854775807 ∧ (1 : Int) ≤ a0_w then
  if 0 ≤ (a1_t % a0_w) ∧ (a1_t % a0_w) ≤ 9223372036854775807 then
  Option.bind (sector_across a0_w) fun x3 =>
  if 0 ≤ a1_t ∧ a1_t ≤ 9223372036854775807 ∧ (1 : Int) ≤ a0_w then
  if 0 ≤ (a1_t / a0_w) ∧ (a1_t / a0_w) ≤ 9223372036854775807 then
  if I64 (x3 * ((a1_t / a0_w) / 8)) then
  if I64 (((a1_t % a0_w) / 8) + (x3 * ((a1_t / a0_w) / 8))) then
  some (((a1_t % a0_w) / 8) + (x3 * ((a1_t / a0_w) / 8)))
  else none
  else none
  else none
  else none
  else none
  else none
def sector_Of (a0_w : Int) (a1_h : Int) (a2_t : Int) : Option (Int × Int) :=
  Option.bind (sector_May a0_w a1_h) fun x1 =>
  if (!x1) = true then
  some (0, 1)
  else
  if ¬ (a2_t < 0) → (I64 (a0_w * a1_h)) then
  if (a2_t < 0) ∨ ((a0_w * a1_h) ≤ a2_t) then
  some (0, 3)
  else
  Option.bind (sector_At a0_w a2_t) fun x7 =>
  some (x7, 0)
  else none
def throngref0_EqBools (a0_a : List Bool) (a1_b : List Bool) : Option Bool :=
  if ¬ (a0_a.length : Int) = (a1_b.length : Int) then
  some false
  else
  Option.bind (α := Ex (Unit) (Bool)) (loop (σ := Int) (β := Ex (Unit) (Bool)) (fun v3 =>
  if v3 < (a0_a.length : Int) then
  if 0 ≤ v3 ∧ v3 < (a0_a.length : Int) then
  if 0 ≤ v3 ∧ v3 < (a1_b.length : Int) then
  if ¬ (gi a0_a v3) = (gi a1_b v3) then
  some (St.done (Ex.up false))
  else
  if I64 (v3 + 1) then
  some (St.next (v3 + 1))
  else none
  else none
  else none
  else
  some (St.done (Ex.go ()))) 0) fun x => x.then fun _ =>
  some true
def throngref0_CopyBools (a0_l : List Bool) : Option (List Bool) :=
  Option.bind (α := List Bool) (loop (σ := List Bool × Int) (β := List Bool) (fun (l4, v6) =>
  if v6 < (a0_l.length : Int) then
  if 0 ≤ v6 ∧ v6 < (a0_l.length : Int) then
  if l4.length < 1099511627776 then
  if I64 (v6 + 1) then
  some (St.next ((l4 ++ [(gi a0_l v6)]), (v6 + 1)))
  else none
  else none
  else none
  else
  some (St.done l4)) ([], 0)) fun v2 =>
  some v2
def throngref0_EqPortals (a0_a : List Prt) (a1_b : List Prt) : Option Bool :=
  if ¬ (a0_a.length : Int) = (a1_b.length : Int) then
  some false
  else
  Option.bind (α := Ex (Unit) (Bool)) (loop (σ := Int) (β := Ex (Unit) (Bool)) (fun v3 =>
  if v3 < (a0_a.length : Int) then
  if 0 ≤ v3 ∧ v3 < (a0_a.length : Int) then
  if 0 ≤ v3 ∧ v3 < (a1_b.length : Int) then
  if ¬ (gi a0_a v3) = (gi a1_b v3) then
  some (St.done (Ex.up false))
  else
  if I64 (v3 + 1) then
  some (St.next (v3 + 1))
  else none
  else none
  else none
  else
  some (St.done (Ex.go ()))) 0) fun x => x.then fun _ =>
  some true
def throngref0_CopyPortals (a0_l : List Prt) : Option (List Prt) :=
  Option.bind (α := List Prt) (loop (σ := List Prt × Int) (β := List Prt) (fun (l4, v6) =>
  if v6 < (a0_l.length : Int) then
  if 0 ≤ v6 ∧ v6 < (a0_l.length : Int) then
  if l4.length < 1099511627776 then
  if I64 (v6 + 1) then
  some (St.next ((l4 ++ [(gi a0_l v6)]), (v6 + 1)))
  else none
  else none
  else none
  else
  some (St.done l4)) ([], 0)) fun v2 =>
  some v2
def thronglaw0_Portals (a0_l : List Prt) : Option Unit :=
  Option.bind (α := Unit) (loop (σ := Int × List Prt) (β := Unit) (fun (v2, l3) =>
  if v2 < (a0_l.length : Int) then
  if 0 ≤ v2 ∧ v2 < (a0_l.length : Int) then
  if I64 (v2 + 1) then
  some (St.next ((v2 + 1), (si l3 v2 (⟨(-9), 0, 0⟩ : Prt))))
  else none
  else none
  else
  some (St.done ())) (0, a0_l)) fun _ =>
  some ()
def throngref10_May (a0_w : Int) (a1_h : Int) (a2_free : List Bool) : Option Bool :=
  if ((((1 ≤ a0_w) ∧ (a0_w ≤ 128)) ∧ (1 ≤ a1_h)) ∧ (a1_h ≤ 128)) → (I64 (a0_w * a1_h)) then
  some (decide (((((1 ≤ a0_w) ∧ (a0_w ≤ 128)) ∧ (1 ≤ a1_h)) ∧ (a1_h ≤ 128)) ∧ ((a2_free.length : Int) = (a0_w * a1_h))))
  else none
def throngref10_Across (a0_w : Int) : Option Int :=
  if I64 (a0_w + 8) then
  if I64 ((a0_w + 8) - 1) then
  if 0 ≤ ((a0_w + 8) - 1) ∧ ((a0_w + 8) - 1) ≤ 9223372036854775807 then
  some (((a0_w + 8) - 1) / 8)
  else none
  else none
  else none
def throngref10_Of (a0_w : Int) (a1_t : Int) : Option Int :=
  if 0 ≤ a1_t ∧ a1_t ≤ 9223372036854775807 ∧ (1 : Int) ≤ a0_w then
  if 0 ≤ (a1_t % a0_w) ∧ (a1_t % a0_w) ≤ 9223372036854775807 then
  Option.bind (throngref10_Across a0_w) fun x3 =>
  if 0 ≤ a1_t ∧ a1_t ≤ 9223372036854775807 ∧ (1 : Int) ≤ a0_w then
  if 0 ≤ (a1_t / a0_w) ∧ (a1_t / a0_w) ≤ 9223372036854775807 then
  if I64 (x3 * ((a1_t / a0_w) / 8)) then
  if I64 (((a1_t % a0_w) / 8) + (x3 * ((a1_t / a0_w) / 8))) then
  some (((a1_t % a0_w) / 8) + (x3 * ((a1_t / a0_w) / 8)))
  else none
  else none
  else none
  else none
  else none
  else none
def throngref10_pair (a0_w : Int) (a1_h : Int) (a2_free : List Bool) (a3_t : Int) (a4_down : Bool) : Option (Int × Bool) :=
  if I64 (a3_t + 1) then
  Option.bind (α := Ex (Int) (Int × Bool)) (if a4_down = true then
  if I64 (a3_t + a0_w) then
  if 0 ≤ a3_t ∧ a3_t ≤ 9223372036854775807 ∧ (1 : Int) ≤ a0_w then
  if I64 (a1_h - 1) then
  if (a3_t / a0_w) = (a1_h - 1) then
  some (Ex.up (0, false))
  else
  some (Ex.go (a3_t + a0_w))
  else none
  else none
  else none
  else
  if 0 ≤ a3_t ∧ a3_t ≤ 9223372036854775807 ∧ (1 : Int) ≤ a0_w then
  if I64 (a0_w - 1) then
  if (a3_t % a0_w) = (a0_w - 1) then
  some (Ex.up (0, false))
  else
  some (Ex.go (a3_t + 1))
  else none
  else none) fun x => x.then fun v3 =>
  if 0 ≤ a3_t ∧ a3_t < (a2_free.length : Int) then
  if ((gi a2_free a3_t) = true) → (0 ≤ v3 ∧ v3 < (a2_free.length : Int)) then
  Option.bind (if ((gi a2_free a3_t) = true) ∧ ((gi a2_free v3) = true) then
  Option.bind (throngref10_Of a0_w a3_t) fun x14 =>
  Option.bind (throngref10_Of a0_w v3) fun x15 =>
  some (decide (¬ x14 = x15))
  else
  some false) fun b12 =>
  some (v3, b12)
  else none
  else none
  else none
def throngref10_with (a0_l : List Prt) (a1_p : Prt) : Option (List Prt) :=
  Option.bind (α := Int) (loop (σ := Int) (β := Int) (fun v217 =>
  if (v217 < (a0_l.length : Int)) → (0 ≤ v217 ∧ v217 < (a0_l.length : Int)) then
  if (v217 < (a0_l.length : Int)) → (¬ ((gi a0_l v217).a < a1_p.a) → (0 ≤ v217 ∧ v217 < (a0_l.length : Int))) then
  if (v217 < (a0_l.length : Int)) → (¬ ((gi a0_l v217).a < a1_p.a) → (((gi a0_l v217).a = a1_p.a) → (0 ≤ v217 ∧ v217 < (a0_l.length : Int)))) then
  if (v217 < (a0_l.length : Int)) ∧ (((gi a0_l v217).a < a1_p.a) ∨ (((gi a0_l v217).a = a1_p.a) ∧ ((gi a0_l v217).b < a1_p.b))) then
  if I64 (v217 + 1) then
  some (St.next (v217 + 1))
  else none
  else
  some (St.done v217)
  else none
  else none
  else none) 0) fun v3 =>
  Option.bind (α := List Prt) (if 0 ≤ v3 ∧ v3 ≤ (a0_l.length : Int) then
  Option.bind (throngref0_CopyPortals (a0_l.take v3.toNat)) fun x11 =>
  if x11.length < 1099511627776 then
  some (x11 ++ [a1_p])
  else none
  else none) fun v5 =>
  if 0 ≤ v3 ∧ v3 ≤ (a0_l.length : Int) then
  if v5.length + (a0_l.drop v3.toNat).length < 1099511627776 then
  some (v5 ++ (a0_l.drop v3.toNat))
  else none
  else none
def throngref10_Find (a0_w : Int) (a1_h : Int) (a2_free : List Bool) : Option (List Prt) :=
  Option.bind (α := List Prt) (loop (σ := List Prt × Int) (β := List Prt) (fun (l4, v6) =>
  if v6 < 2 then
  Option.bind (α := Int) (if v6 = 1 then
  some 1
  else
  some a0_w) fun v10 =>
  Option.bind (α := List Prt) (loop (σ := Int × List Prt) (β := List Prt) (fun (v15, l16) =>
  if I64 (a0_w * a1_h) then
  if v15 < (a0_w * a1_h) then
  Option.bind (α := List Prt) (Option.bind (throngref10_pair a0_w a1_h a2_free v15 (decide (v6 = 1))) fun x25 =>
  if (!x25.2) = true then
  some l16
  else
  if I64 (v15 - v10) then
  if (0 ≤ (v15 - v10)) → (¬ (¬ (v6 = 1)) → (0 ≤ v15 ∧ v15 ≤ 9223372036854775807 ∧ (1 : Int) ≤ a0_w)) then
  Option.bind (α := Ex (Unit) (List Prt)) (if (0 ≤ (v15 - v10)) ∧ ((¬ (v6 = 1)) ∨ (0 < (v15 % a0_w))) then
  if I64 (v15 - v10) then
  Option.bind (throngref10_pair a0_w a1_h a2_free (v15 - v10) (decide (v6 = 1))) fun x70 =>
  Option.bind (if x70.2 = true then
  if I64 (v15 - v10) then
  Option.bind (throngref10_Of a0_w (v15 - v10)) fun x83 =>
  Option.bind (throngref10_Of a0_w v15) fun x84 =>
  some (decide (x83 = x84))
  else none
  else
  some false) fun b73 =>
  Option.bind (if b73 = true then
  Option.bind (throngref10_Of a0_w x70.1) fun x79 =>
  Option.bind (throngref10_Of a0_w x25.1) fun x80 =>
  some (decide (x79 = x80))
  else
  some false) fun b76 =>
  if b76 = true then
  some (Ex.up l16)
  else
  some (Ex.go ())
  else none
  else
  some (Ex.go ())) fun x => x.then fun _ =>
  Option.bind (α := Int) (loop (σ := Int) (β := Int) (fun v41 =>
  if I64 (v41 * v10) then
  if I64 (v15 + (v41 * v10)) then
  if I64 (a0_w * a1_h) then
  if ¬ ((a0_w * a1_h) ≤ (v15 + (v41 * v10))) → ((v6 = 1) → (0 ≤ (v15 + (v41 * v10)) ∧ (v15 + (v41 * v10)) ≤ 9223372036854775807 ∧ (1 : Int) ≤ a0_w)) then
  if ¬ ((a0_w * a1_h) ≤ (v15 + (v41 * v10))) → ((v6 = 1) → (0 ≤ v15 ∧ v15 ≤ 9223372036854775807 ∧ (1 : Int) ≤ a0_w)) then
  if ((a0_w * a1_h) ≤ (v15 + (v41 * v10))) ∨ ((v6 = 1) ∧ (¬ ((v15 + (v41 * v10)) / a0_w) = (v15 / a0_w))) then
  some (St.done v41)
  else
  Option.bind (throngref10_pair a0_w a1_h a2_free (v15 + (v41 * v10)) (decide (v6 = 1))) fun x51 =>
  Option.bind (if (!x51.2) = true then
  some true
  else
  Option.bind (throngref10_Of a0_w (v15 + (v41 * v10))) fun x64 =>
  Option.bind (throngref10_Of a0_w v15) fun x65 =>
  some (decide (¬ x64 = x65))) fun b54 =>
  Option.bind (if b54 = true then
  some true
  else
  Option.bind (throngref10_Of a0_w x51.1) fun x61 =>
  Option.bind (throngref10_Of a0_w x25.1) fun x62 =>
  some (decide (¬ x61 = x62))) fun b57 =>
  if b57 = true then
  some (St.done v41)
  else
  if I64 (v41 + 1) then
  some (St.next (v41 + 1))
  else none
  else none
  else none
  else none
  else none
  else none) 1) fun v33 =>
  if I64 (v33 - 1) then
  if 0 ≤ (v33 - 1) ∧ (v33 - 1) ≤ 9223372036854775807 then
  if I64 (((v33 - 1) / 2) * v10) then
  if I64 (v15 + (((v33 - 1) / 2) * v10)) then
  if I64 (x25.1 + (((v33 - 1) / 2) * v10)) then
  Option.bind (throngref10_with l16 (⟨(v15 + (((v33 - 1) / 2) * v10)), (x25.1 + (((v33 - 1) / 2) * v10)), v33⟩ : Prt)) fun x39 =>
  some x39
  else none
  else none
  else none
  else none
  else none
  else none
  else none) fun v22 =>
  if I64 (v15 + 1) then
  some (St.next ((v15 + 1), v22))
  else none
  else
  some (St.done l16)
  else none) (0, l4)) fun v12 =>
  if I64 (v6 + 1) then
  some (St.next (v12, (v6 + 1)))
  else none
  else
  some (St.done l4)) ([], 0)) fun v2 =>
  some v2
noncomputable def sector_Parts (a0_w : Int) (a1_h : Int) (a2_free : List Bool) : Option (List Int × Int) :=
  Option.bind (sector_May a0_w a1_h) fun x1 =>
  if ¬ ((!x1) = true) → (I64 (a0_w * a1_h)) then
  if ((!x1) = true) ∨ (¬ (a2_free.length : Int) = (a0_w * a1_h)) then
  some ([], 1)
  else
  if I64 (a0_w * a1_h) then
  Option.bind (slices_Repeat [(-1)] (a0_w * a1_h)) fun x8 =>
  Option.bind (sector_across a0_w) fun x10 =>
  Option.bind (sector_across a1_h) fun x11 =>
  if I64 (x10 * x11) then
  Option.bind (α := List Int) (loop (σ := Int × List Int) (β := List Int) (fun (v15, l16) =>
  if v15 < (x10 * x11) then
  Option.bind (sector_redo a0_w a1_h a2_free l16 v15) fun x19 =>
  if I64 (v15 + 1) then
  some (St.next ((v15 + 1), x19))
  else none
  else
  some (St.done l16)) (0, x8)) fun v14 =>
  some (v14, 0)
  else none
  else none
  else none
def portal_border (a0_free : List Bool) (a1_a : Int) (a2_over : Int) (a3_step : Int) (a4_n : Int) : Option (List Prt) :=
  if I64 (a4_n + 1) then
  Option.bind (α := List Prt) (loop (σ := List Prt × Int × Int) (β := List Prt) (fun (l5, v7, v8) =>
  if v8 < (a4_n + 1) then
  if I64 (a3_step * v8) then
  if I64 (a1_a + (a3_step * v8)) then
  if (v8 < a4_n) → (0 ≤ (a1_a + (a3_step * v8)) ∧ (a1_a + (a3_step * v8)) < (a0_free.length : Int)) then
  if ((v8 < a4_n) ∧ ((gi a0_free (a1_a + (a3_step * v8))) = true)) → (I64 ((a1_a + (a3_step * v8)) + a2_over)) then
  if ((v8 < a4_n) ∧ ((gi a0_free (a1_a + (a3_step * v8))) = true)) → (0 ≤ ((a1_a + (a3_step * v8)) + a2_over) ∧ ((a1_a + (a3_step * v8)) + a2_over) < (a0_free.length : Int)) then
  if ((v8 < a4_n) ∧ ((gi a0_free (a1_a + (a3_step * v8))) = true)) ∧ ((gi a0_free ((a1_a + (a3_step * v8)) + a2_over)) = true) then
  if I64 (v7 + 1) then
  if I64 (v8 + 1) then
  some (St.next (l5, (v7 + 1), (v8 + 1)))
  else none
  else none
  else
  if 0 < v7 then
  if I64 (a3_step * v7) then
  if I64 ((a1_a + (a3_step * v8)) - (a3_step * v7)) then
  if I64 (v7 - 1) then
  if 0 ≤ (v7 - 1) ∧ (v7 - 1) ≤ 9223372036854775807 then
  if I64 (a3_step * ((v7 - 1) / 2)) then
  if I64 (((a1_a + (a3_step * v8)) - (a3_step * v7)) + (a3_step * ((v7 - 1) / 2))) then
  if I64 ((((a1_a + (a3_step * v8)) - (a3_step * v7)) + (a3_step * ((v7 - 1) / 2))) + a2_over) then
  if l5.length < 1099511627776 then
  if I64 (v8 + 1) then
  some (St.next ((l5 ++ [(⟨(((a1_a + (a3_step * v8)) - (a3_step * v7)) + (a3_step * ((v7 - 1) / 2))), ((((a1_a + (a3_step * v8)) - (a3_step * v7)) + (a3_step * ((v7 - 1) / 2))) + a2_over), v7⟩ : Prt)]), 0, (v8 + 1)))
  else none
  else none
  else none
  else none
  else none
  else none
  else none
  else none
  else none
  else
  if I64 (v8 + 1) then
  some (St.next (l5, 0, (v8 + 1)))
  else none
  else none
  else none
  else none
  else none
  else none
  else
  some (St.done l5)) ([], 0, 0)) fun v3 =>
  some v3
  else none
def portal_All (a0_w : Int) (a1_h : Int) (a2_free : List Bool) : Option (List Prt) :=
  Option.bind (α := List Prt) (loop (σ := List Prt × Int) (β := List Prt) (fun (l5, v7) =>
  if v7 < a1_h then
  Option.bind (α := List Prt) (loop (σ := Int × List Prt) (β := List Prt) (fun (v14, l15) =>
  if v14 < a0_w then
  if I64 (v14 + 8) then
  Option.bind (α := List Prt) (if (v14 + 8) < a0_w then
  if I64 (v14 + 8) then
  if I64 ((v14 + 8) - 1) then
  if I64 (a0_w * v7) then
  if I64 (((v14 + 8) - 1) + (a0_w * v7)) then
  if I64 (a1_h - v7) then
  Option.bind (portal_border a2_free (((v14 + 8) - 1) + (a0_w * v7)) 1 a0_w (min 8 (a1_h - v7))) fun x42 =>
  if l15.length + x42.length < 1099511627776 then
  some (l15 ++ x42)
  else none
  else none
  else none
  else none
  else none
  else none
  else
  some l15) fun v21 =>
  if I64 (v7 + 8) then
  if (v7 + 8) < a1_h then
  if I64 (v7 + 8) then
  if I64 ((v7 + 8) - 1) then
  if I64 (a0_w * ((v7 + 8) - 1)) then
  if I64 (v14 + (a0_w * ((v7 + 8) - 1))) then
  if I64 (a0_w - v14) then
  Option.bind (portal_border a2_free (v14 + (a0_w * ((v7 + 8) - 1))) a0_w 1 (min 8 (a0_w - v14))) fun x30 =>
  if v21.length + x30.length < 1099511627776 then
  if I64 (v14 + 8) then
  some (St.next ((v14 + 8), (v21 ++ x30)))
  else none
  else none
  else none
  else none
  else none
  else none
  else none
  else
  if I64 (v14 + 8) then
  some (St.next ((v14 + 8), v21))
  else none
  else none
  else none
  else
  some (St.done l15)) (0, l5)) fun v11 =>
  if I64 (v7 + 8) then
  some (St.next (v11, (v7 + 8)))
  else none
  else
  some (St.done l5)) ([], 0)) fun v2 =>
  Option.bind (slices_SortFuncP v2) fun x4 =>
  some x4
def portal_Find (a0_w : Int) (a1_h : Int) (a2_free : List Bool) : Option (List Prt × Int) :=
  Option.bind (sector_May a0_w a1_h) fun x1 =>
  if ¬ ((!x1) = true) → (I64 (a0_w * a1_h)) then
  if ((!x1) = true) ∨ (¬ (a2_free.length : Int) = (a0_w * a1_h)) then
  some ([], 1)
  else
  Option.bind (portal_All a0_w a1_h a2_free) fun x6 =>
  some (x6, 0)
  else none
def thronglaw11_num (a0_e : Int) : Option Int :=
  some a0_e
def thronglaw11_wakes : Option Bool :=
  if 0 ≤ (16 : Int) ∧ (16 : Int) ≤ 281474976710656 then
  Option.bind (α := List Bool) (loop (σ := Int × List Bool) (β := List Bool) (fun (v14, l15) =>
  if v14 < 16 then
  if 0 ≤ v14 ∧ v14 < ((16 : Int).toNat : Int) then
  if I64 (v14 + 1) then
  some (St.next ((v14 + 1), (si l15 v14 true)))
  else none
  else none
  else
  some (St.done l15)) (0, (List.replicate (16 : Int).toNat false))) fun v4 =>
  Option.bind (portal_Find 16 1 v4) fun x5 =>
  Option.bind (thronglaw11_num x5.2) fun x7 =>
  Option.bind (if x7 = 0 then
  Option.bind (throngref0_EqPortals x5.1 [(⟨7, 8, 1⟩ : Prt)]) fun x13 =>
  some x13
  else
  some false) fun b10 =>
  some b10
  else none
def thronglaw11_heavy (a0_p : Ask) : Option Bool :=
  some (decide (900 < (a0_p.Free.length : Int)))
def thronglaw11_apart (a0_p : Ask) (a1_a : Int) (a2_b : Int) : Option Bool :=
  Option.bind (sector_Of a0_p.W a0_p.H a1_a) fun x2 =>
  Option.bind (sector_Of a0_p.W a0_p.H a2_b) fun x3 =>
  Option.bind (thronglaw11_num x2.2) fun x4 =>
  Option.bind (if x4 = 0 then
  Option.bind (thronglaw11_num x3.2) fun x21 =>
  some (decide (x21 = 0))
  else
  some false) fun b7 =>
  if (b7 = true) → (0 ≤ a1_a ∧ a1_a < (a0_p.Free.length : Int)) then
  if ((b7 = true) ∧ ((gi a0_p.Free a1_a) = true)) → (0 ≤ a2_b ∧ a2_b < (a0_p.Free.length : Int)) then
  some (decide ((((b7 = true) ∧ ((gi a0_p.Free a1_a) = true)) ∧ ((gi a0_p.Free a2_b) = true)) ∧ (¬ x2.1 = x3.1)))
  else none
  else none
end Go.Proofs.Ytddicdmleeaihaa
