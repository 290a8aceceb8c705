/-
  The statements of the sectors and all that they call, as pure functions.
-/
import Derived.Test.YtacpdjccbadomaaRows
import Derived.Test.YtacpdjccbadomaaSF
set_option linter.unusedVariables false
set_option linter.unusedSimpArgs false
set_option maxRecDepth 20000
set_option maxHeartbeats 1000000
namespace Go.Proofs.Ytacpdjccbadomaa
open Go.Vg
open Enc (R)
open Sp
def ground_Side (a0_n : Int) : Option Bool :=
  some (decide ((1 ≤ a0_n) ∧ (a0_n ≤ 128)))
def sector_May (a0_w : Int) (a1_h : Int) : Option Bool :=
  Option.bind (ground_Side a0_w) fun x1 =>
  Option.bind (if x1 = true then
  Option.bind (ground_Side a1_h) fun x6 =>
  some x6
  else
  some false) fun b4 =>
  some b4
def sector_across (a0_n : Int) : Option Int :=
  if I64 (a0_n + 8) then
  if I64 ((a0_n + 8) - 1) then
  if 0 ≤ ((a0_n + 8) - 1) ∧ ((a0_n + 8) - 1) ≤ 9223372036854775807 then
  some (((a0_n + 8) - 1) / 8)
  else none
  else none
  else none
def sector_Count (a0_w : Int) (a1_h : Int) : Option (Int × Int) :=
  Option.bind (sector_May a0_w a1_h) fun x1 =>
  if (!x1) = true then
  some (0, 1)
  else
  Option.bind (sector_across a0_w) fun x3 =>
  Option.bind (sector_across a1_h) fun x4 =>
  if I64 (x3 * x4) then
  some ((x3 * x4), 0)
  else none
def sector_At (a0_w : Int) (a1_t : Int) : Option Int :=
  if 0 ≤ a1_t ∧ a1_t ≤ 9223372036854775807 ∧ (1 : Int) ≤ a0_w then
  if 0 ≤ (a1_t % a0_w) ∧ (a1_t % a0_w) ≤ 9223372036854775807 then
  Option.bind (sector_across a0_w) fun x3 =>
  if 0 ≤ a1_t ∧ a1_t ≤ 9223372036854775807 ∧ (1 : Int) ≤ a0_w then
  if 0 ≤ (a1_t / a0_w) ∧ (a1_t / a0_w) ≤ 9223372036854775807 then
  if I64 (x3 * ((a1_t / a0_w) / 8)) then
  if I64 (((a1_t % a0_w) / 8) + (x3 * ((a1_t / a0_w) / 8))) then
  some (((a1_t % a0_w) / 8) + (x3 * ((a1_t / a0_w) / 8)))
  else none
  else none
  else none
  else none
  else none
  else none
def sector_Of (a0_w : Int) (a1_h : Int) (a2_t : Int) : Option (Int × Int) :=
  Option.bind (sector_May a0_w a1_h) fun x1 =>
  if (!x1) = true then
  some (0, 1)
  else
  if ¬ (a2_t < 0) → (I64 (a0_w * a1_h)) then
  if (a2_t < 0) ∨ ((a0_w * a1_h) ≤ a2_t) then
  some (0, 3)
  else
  Option.bind (sector_At a0_w a2_t) fun x7 =>
  some (x7, 0)
  else none
def throngref0_EqNumbers (a0_a : List Int) (a1_b : List Int) : Option Bool :=
  if ¬ (a0_a.length : Int) = (a1_b.length : Int) then
  some false
  else
  Option.bind (α := Ex (Unit) (Bool)) (loop (σ := Int) (β := Ex (Unit) (Bool)) (fun v3 =>
  if v3 < (a0_a.length : Int) then
  if 0 ≤ v3 ∧ v3 < (a0_a.length : Int) then
  if 0 ≤ v3 ∧ v3 < (a1_b.length : Int) then
  if ¬ (gi a0_a v3) = (gi a1_b v3) then
  some (St.done (Ex.up false))
  else
  if I64 (v3 + 1) then
  some (St.next (v3 + 1))
  else none
  else none
  else none
  else
  some (St.done (Ex.go ()))) 0) fun x => x.then fun _ =>
  some true
def throngref0_EqBools (a0_a : List Bool) (a1_b : List Bool) : Option Bool :=
  if ¬ (a0_a.length : Int) = (a1_b.length : Int) then
  some false
  else
  Option.bind (α := Ex (Unit) (Bool)) (loop (σ := Int) (β := Ex (Unit) (Bool)) (fun v3 =>
  if v3 < (a0_a.length : Int) then
  if 0 ≤ v3 ∧ v3 < (a0_a.length : Int) then
  if 0 ≤ v3 ∧ v3 < (a1_b.length : Int) then
  if ¬ (gi a0_a v3) = (gi a1_b v3) then
  some (St.done (Ex.up false))
  else
  if I64 (v3 + 1) then
  some (St.next (v3 + 1))
  else none
  else none
  else none
  else
  some (St.done (Ex.go ()))) 0) fun x => x.then fun _ =>
  some true
def throngref0_CopyNumbers (a0_l : List Int) : Option (List Int) :=
  Option.bind (α := List Int) (loop (σ := List Int × Int) (β := List Int) (fun (l4, v6) =>
  if v6 < (a0_l.length : Int) then
  if 0 ≤ v6 ∧ v6 < (a0_l.length : Int) then
  if l4.length < 1099511627776 then
  if I64 (v6 + 1) then
  some (St.next ((l4 ++ [(gi a0_l v6)]), (v6 + 1)))
  else none
  else none
  else none
  else
  some (St.done l4)) ([], 0)) fun v2 =>
  some v2
def throngref0_CopyBools (a0_l : List Bool) : Option (List Bool) :=
  Option.bind (α := List Bool) (loop (σ := List Bool × Int) (β := List Bool) (fun (l4, v6) =>
  if v6 < (a0_l.length : Int) then
  if 0 ≤ v6 ∧ v6 < (a0_l.length : Int) then
  if l4.length < 1099511627776 then
  if I64 (v6 + 1) then
  some (St.next ((l4 ++ [(gi a0_l v6)]), (v6 + 1)))
  else none
  else none
  else none
  else
  some (St.done l4)) ([], 0)) fun v2 =>
  some v2
def thronglaw0_Numbers (a0_l : List Int) : Option Unit :=
  Option.bind (α := List Int) (loop (σ := Int × List Int) (β := List Int) (fun (v6, l7) =>
  if v6 < (a0_l.length : Int) then
  if 0 ≤ v6 ∧ v6 < (a0_l.length : Int) then
  if I64 (v6 + 1) then
  some (St.next ((v6 + 1), (si l7 v6 (-99))))
  else none
  else none
  else
  some (St.done l7)) (0, a0_l)) fun v2 =>
  if v2.length < 1099511627776 then
  some ()
  else none
def throngref10_May (a0_w : Int) (a1_h : Int) (a2_free : List Bool) : Option Bool :=
  if ((((1 ≤ a0_w) ∧ (a0_w ≤ 128)) ∧ (1 ≤ a1_h)) ∧ (a1_h ≤ 128)) → (I64 (a0_w * a1_h)) then
  some (decide (((((1 ≤ a0_w) ∧ (a0_w ≤ 128)) ∧ (1 ≤ a1_h)) ∧ (a1_h ≤ 128)) ∧ ((a2_free.length : Int) = (a0_w * a1_h))))
  else none
def throngref10_Across (a0_w : Int) : Option Int :=
  if I64 (a0_w + 8) then
  if I64 ((a0_w + 8) - 1) then
  if 0 ≤ ((a0_w + 8) - 1) ∧ ((a0_w + 8) - 1) ≤ 9223372036854775807 then
  some (((a0_w + 8) - 1) / 8)
  else none
  else none
  else none
def throngref10_Of (a0_w : Int) (a1_t : Int) : Option Int :=
  if 0 ≤ a1_t ∧ a1_t ≤ 9223372036854775807 ∧ (1 : Int) ≤ a0_w then
  if 0 ≤ (a1_t % a0_w) ∧ (a1_t % a0_w) ≤ 9223372036854775807 then
  Option.bind (throngref10_Across a0_w) fun x3 =>
  if 0 ≤ a1_t ∧ a1_t ≤ 9223372036854775807 ∧ (1 : Int) ≤ a0_w then
  if 0 ≤ (a1_t / a0_w) ∧ (a1_t / a0_w) ≤ 9223372036854775807 then
  if I64 (x3 * ((a1_t / a0_w) / 8)) then
  if I64 (((a1_t % a0_w) / 8) + (x3 * ((a1_t / a0_w) / 8))) then
  some (((a1_t % a0_w) / 8) + (x3 * ((a1_t / a0_w) / 8)))
  else none
  else none
  else none
  else none
  else none
  else none
def throngref10_beside (a0_w : Int) (a1_h : Int) (a2_t : Int) : Option (List Int) :=
  if 0 ≤ a2_t ∧ a2_t ≤ 9223372036854775807 ∧ (1 : Int) ≤ a0_w then
  Option.bind (α := List Int) (if 0 < (a2_t / a0_w) then
  if I64 (a2_t - a0_w) then
  if ([] : List Int).length < 1099511627776 then
  some (([] : List Int) ++ [(a2_t - a0_w)])
  else none
  else none
  else
  some []) fun v3 =>
  if 0 ≤ a2_t ∧ a2_t ≤ 9223372036854775807 ∧ (1 : Int) ≤ a0_w then
  if I64 (a0_w - 1) then
  Option.bind (α := List Int) (if (a2_t % a0_w) < (a0_w - 1) then
  if I64 (a2_t + 1) then
  if v3.length < 1099511627776 then
  some (v3 ++ [(a2_t + 1)])
  else none
  else none
  else
  some v3) fun v8 =>
  if 0 ≤ a2_t ∧ a2_t ≤ 9223372036854775807 ∧ (1 : Int) ≤ a0_w then
  if I64 (a1_h - 1) then
  Option.bind (α := List Int) (if (a2_t / a0_w) < (a1_h - 1) then
  if I64 (a2_t + a0_w) then
  if v8.length < 1099511627776 then
  some (v8 ++ [(a2_t + a0_w)])
  else none
  else none
  else
  some v8) fun v13 =>
  if 0 ≤ a2_t ∧ a2_t ≤ 9223372036854775807 ∧ (1 : Int) ≤ a0_w then
  if 0 < (a2_t % a0_w) then
  if I64 (a2_t - 1) then
  if v13.length < 1099511627776 then
  some (v13 ++ [(a2_t - 1)])
  else none
  else none
  else
  some v13
  else none
  else none
  else none
  else none
  else none
  else none
def throngref10_Parts (a0_w : Int) (a1_h : Int) (a2_free : List Bool) : Option (List Int) :=
  if I64 (a0_w * a1_h) then
  if 0 ≤ (a0_w * a1_h) ∧ (a0_w * a1_h) ≤ 35184372088832 then
  Option.bind (α := List Int) (loop (σ := Int × List Int) (β := List Int) (fun (v62, l63) =>
  if v62 < ((a0_w * a1_h).toNat : Int) then
  if 0 ≤ v62 ∧ v62 < ((a0_w * a1_h).toNat : Int) then
  if 0 ≤ v62 ∧ v62 < (a2_free.length : Int) then
  if (gi a2_free v62) = true then
  if 0 ≤ v62 ∧ v62 < ((a0_w * a1_h).toNat : Int) then
  if I64 (v62 + 1) then
  some (St.next ((v62 + 1), (si (si l63 v62 (-1)) v62 v62)))
  else none
  else none
  else
  if I64 (v62 + 1) then
  some (St.next ((v62 + 1), (si l63 v62 (-1))))
  else none
  else none
  else none
  else
  some (St.done l63)) (0, (List.replicate (a0_w * a1_h).toNat 0))) fun v5 =>
  Option.bind (α := List Int) (loop (σ := Bool × List Int) (β := List Int) (fun (v8, l9) =>
  if v8 = true then
  Option.bind (α := Bool × List Int) (loop (σ := Bool × Int × List Int) (β := Bool × List Int) (fun (v15, v16, l17) =>
  if v16 < ((a0_w * a1_h).toNat : Int) then
  if 0 ≤ v16 ∧ v16 < (a2_free.length : Int) then
  if (!(gi a2_free v16)) = true then
  if I64 (v16 + 1) then
  some (St.next (v15, (v16 + 1), l17))
  else none
  else
  Option.bind (throngref10_beside a0_w a1_h v16) fun x25 =>
  Option.bind (α := Bool × List Int) (loop (σ := Bool × Int × List Int) (β := Bool × List Int) (fun (v31, v32, l33) =>
  if v32 < (x25.length : Int) then
  if 0 ≤ v32 ∧ v32 < (x25.length : Int) then
  if 0 ≤ (gi x25 v32) ∧ (gi x25 v32) < (a2_free.length : Int) then
  Option.bind (if (gi a2_free (gi x25 v32)) = true then
  if 0 ≤ v32 ∧ v32 < (x25.length : Int) then
  Option.bind (throngref10_Of a0_w (gi x25 v32)) fun x60 =>
  Option.bind (throngref10_Of a0_w v16) fun x61 =>
  some (decide (x60 = x61))
  else none
  else
  some false) fun b42 =>
  if (b42 = true) → (0 ≤ v32 ∧ v32 < (x25.length : Int)) then
  if (b42 = true) → (0 ≤ (gi x25 v32) ∧ (gi x25 v32) < ((a0_w * a1_h).toNat : Int)) then
  if (b42 = true) → (0 ≤ v16 ∧ v16 < ((a0_w * a1_h).toNat : Int)) then
  if (b42 = true) ∧ ((gi l33 (gi x25 v32)) < (gi l33 v16)) then
  if 0 ≤ v32 ∧ v32 < (x25.length : Int) then
  if 0 ≤ (gi x25 v32) ∧ (gi x25 v32) < ((a0_w * a1_h).toNat : Int) then
  if 0 ≤ v16 ∧ v16 < ((a0_w * a1_h).toNat : Int) then
  if I64 (v32 + 1) then
  some (St.next (true, (v32 + 1), (si l33 v16 (gi l33 (gi x25 v32)))))
  else none
  else none
  else none
  else none
  else
  if I64 (v32 + 1) then
  some (St.next (v31, (v32 + 1), l33))
  else none
  else none
  else none
  else none
  else none
  else none
  else
  some (St.done (v31, l33))) (v15, 0, l17)) fun (v28, v29) =>
  if I64 (v16 + 1) then
  some (St.next (v28, (v16 + 1), v29))
  else none
  else none
  else
  some (St.done (v15, l17))) (false, 0, l9)) fun (v13, v14) =>
  some (St.next (v13, v14))
  else
  some (St.done l9)) (true, v5)) fun v7 =>
  some v7
  else none
  else none
def throngref10_Redo (a0_w : Int) (a1_h : Int) (a2_free : List Bool) (a3_parts : List Int) (a4_t : Int) : Option (List Int) :=
  Option.bind (throngref10_Parts a0_w a1_h a2_free) fun x1 =>
  Option.bind (throngref0_CopyNumbers a3_parts) fun x3 =>
  Option.bind (α := List Int) (loop (σ := Int × List Int) (β := List Int) (fun (v7, l8) =>
  if v7 < (x3.length : Int) then
  Option.bind (throngref10_Of a0_w v7) fun x11 =>
  Option.bind (throngref10_Of a0_w a4_t) fun x12 =>
  if x11 = x12 then
  if 0 ≤ v7 ∧ v7 < (x1.length : Int) then
  if 0 ≤ v7 ∧ v7 < (x3.length : Int) then
  if I64 (v7 + 1) then
  some (St.next ((v7 + 1), (si l8 v7 (gi x1 v7))))
  else none
  else none
  else none
  else
  if I64 (v7 + 1) then
  some (St.next ((v7 + 1), l8))
  else none
  else
  some (St.done l8)) (0, x3)) fun v6 =>
  some v6
noncomputable def sector_Parts (a0_w : Int) (a1_h : Int) (a2_free : List Bool) : Option (List Int × Int) :=
  Option.bind (sector_May a0_w a1_h) fun x1 =>
  if ¬ ((!x1) = true) → (I64 (a0_w * a1_h)) then
  if ((!x1) = true) ∨ (¬ (a2_free.length : Int) = (a0_w * a1_h)) then
  some ([], 1)
  else
  if I64 (a0_w * a1_h) then
  Option.bind (slices_Repeat [(-1)] (a0_w * a1_h)) fun x8 =>
  Option.bind (sector_across a0_w) fun x10 =>
  Option.bind (sector_across a1_h) fun x11 =>
  if I64 (x10 * x11) then
  Option.bind (α := List Int) (loop (σ := Int × List Int) (β := List Int) (fun (v15, l16) =>
  if v15 < (x10 * x11) then
  Option.bind (sector_redo a0_w a1_h a2_free l16 v15) fun x19 =>
  if I64 (v15 + 1) then
  some (St.next ((v15 + 1), x19))
  else none
  else
  some (St.done l16)) (0, x8)) fun v14 =>
  some (v14, 0)
  else none
  else none
  else none
noncomputable def sector_Redo (a0_w : Int) (a1_h : Int) (a2_free : List Bool) (a3_parts : List Int) (a4_t : Int) : Option (List Int × Int) :=
  Option.bind (sector_May a0_w a1_h) fun x1 =>
  if ¬ ((!x1) = true) → (I64 (a0_w * a1_h)) then
  if ¬ (((!x1) = true) ∨ (¬ (a2_free.length : Int) = (a0_w * a1_h))) → (I64 (a0_w * a1_h)) then
  if (((!x1) = true) ∨ (¬ (a2_free.length : Int) = (a0_w * a1_h))) ∨ (¬ (a3_parts.length : Int) = (a0_w * a1_h)) then
  some ([], 1)
  else
  if ¬ (a4_t < 0) → (I64 (a0_w * a1_h)) then
  if (a4_t < 0) ∨ ((a0_w * a1_h) ≤ a4_t) then
  some ([], 3)
  else
  Option.bind (slices_Clone a3_parts) fun x13 =>
  Option.bind (sector_At a0_w a4_t) fun x15 =>
  Option.bind (sector_redo a0_w a1_h a2_free x13 x15) fun x16 =>
  some (x16, 0)
  else none
  else none
  else none
def thronglaw10_num (a0_e : Int) : Option Int :=
  some a0_e
noncomputable def thronglaw10_wakes : Option Bool :=
  Option.bind (sector_Parts 2 1 [true, true]) fun x2 =>
  Option.bind (thronglaw10_num x2.2) fun x4 =>
  Option.bind (if x4 = 0 then
  Option.bind (throngref0_EqNumbers x2.1 [0, 0]) fun x10 =>
  some x10
  else
  some false) fun b7 =>
  some b7
def thronglaw10_heavy (a0_p : Ask) : Option Bool :=
  some (decide (((900 < (a0_p.Free.length : Int)) ∨ (60 < (a0_p.Ts.length : Int))) ∨ (2000 < (a0_p.Parts.length : Int))))
def thronglaw10_form (a0_p : Ask) : Option Int :=
  Option.bind (throngref10_May a0_p.W a0_p.H a0_p.Free) fun x2 =>
  if x2 = true then
  some 0
  else
  some 1
def thronglaw10_same (a0_p : Ask) (a1_t : Int) (a2_s : Int) : Option Bool :=
  Option.bind (sector_Of a0_p.W a0_p.H a1_t) fun x2 =>
  Option.bind (thronglaw10_num x2.2) fun x3 =>
  some (decide ((x3 = 0) ∧ (x2.1 = a2_s)))
noncomputable def thronglaw10_SectorNumbers (a0_p : Ask) : Option Bool :=
  Option.bind (thronglaw10_heavy a0_p) fun x2 =>
  if x2 = true then
  some true
  else
  Option.bind (α := Int × Int) (if (((1 ≤ a0_p.W) ∧ (a0_p.W ≤ 128)) ∧ (1 ≤ a0_p.H)) ∧ (a0_p.H ≤ 128) then
  Option.bind (throngref10_Across a0_p.W) fun x42 =>
  Option.bind (throngref10_Across a0_p.H) fun x43 =>
  if I64 (x42 * x43) then
  some (0, (x42 * x43))
  else none
  else
  some (1, 0)) fun (v11, v12) =>
  Option.bind (sector_Count a0_p.W a0_p.H) fun x13 =>
  Option.bind (thronglaw10_num x13.2) fun x14 =>
  if (¬ x14 = v11) ∨ (¬ x13.1 = v12) then
  some false
  else
  Option.bind (α := Ex (Unit) (Bool)) (loop (σ := Int) (β := Ex (Unit) (Bool)) (fun v20 =>
  if v20 < (a0_p.Ts.length : Int) then
  if 0 ≤ v20 ∧ v20 < (a0_p.Ts.length : Int) then
  Option.bind (α := Int × Int) (if (((1 ≤ a0_p.W) ∧ (a0_p.W ≤ 128)) ∧ (1 ≤ a0_p.H)) ∧ (a0_p.H ≤ 128) then
  if (0 ≤ (gi a0_p.Ts v20)) → (I64 (a0_p.W * a0_p.H)) then
  if (0 ≤ (gi a0_p.Ts v20)) ∧ ((gi a0_p.Ts v20) < (a0_p.W * a0_p.H)) then
  Option.bind (throngref10_Of a0_p.W (gi a0_p.Ts v20)) fun x40 =>
  some (0, x40)
  else
  some (3, 0)
  else none
  else
  some (1, 0)) fun (v27, v28) =>
  Option.bind (sector_Of a0_p.W a0_p.H (gi a0_p.Ts v20)) fun x29 =>
  Option.bind (thronglaw10_num x29.2) fun x30 =>
  if (¬ x30 = v27) ∨ (¬ x29.1 = v28) then
  some (St.done (Ex.up false))
  else
  if I64 (v20 + 1) then
  some (St.next (v20 + 1))
  else none
  else none
  else
  some (St.done (Ex.go ()))) 0) fun x => x.then fun _ =>
  Option.bind (thronglaw10_wakes) fun x19 =>
  some x19
noncomputable def thronglaw10_SectorParts (a0_p : Ask) : Option Bool :=
  Option.bind (thronglaw10_heavy a0_p) fun x2 =>
  if x2 = true then
  some true
  else
  Option.bind (thronglaw10_form a0_p) fun x4 =>
  Option.bind (α := List Int) (if x4 = 0 then
  Option.bind (throngref10_Parts a0_p.W a0_p.H a0_p.Free) fun x27 =>
  some x27
  else
  some []) fun v6 =>
  Option.bind (throngref0_CopyBools a0_p.Free) fun x8 =>
  Option.bind (sector_Parts a0_p.W a0_p.H x8) fun x10 =>
  Option.bind (thronglaw10_num x10.2) fun x12 =>
  Option.bind (if ¬ x12 = x4 then
  some true
  else
  Option.bind (throngref0_EqNumbers x10.1 v6) fun x25 =>
  some (!x25)) fun b15 =>
  Option.bind (if b15 = true then
  some true
  else
  Option.bind (throngref0_EqBools x8 a0_p.Free) fun x23 =>
  some (!x23)) fun b18 =>
  if b18 = true then
  some false
  else
  Option.bind (thronglaw0_Numbers x10.1) fun x20 =>
  Option.bind (thronglaw10_wakes) fun x21 =>
  some x21
noncomputable def thronglaw10_SectorRedo (a0_p : Ask) : Option Bool :=
  Option.bind (thronglaw10_heavy a0_p) fun x2 =>
  if x2 = true then
  some true
  else
  Option.bind (α := Ex (Unit) (Bool)) (loop (σ := Int) (β := Ex (Unit) (Bool)) (fun v6 =>
  if (v6 < (a0_p.Ts.length : Int)) ∧ (v6 < 10) then
  Option.bind (thronglaw10_form a0_p) fun x11 =>
  if (x11 = 0) → (I64 (a0_p.W * a0_p.H)) then
  Option.bind (α := Int) (if (x11 = 0) ∧ (¬ (a0_p.Parts.length : Int) = (a0_p.W * a0_p.H)) then
  some 1
  else
  some x11) fun v16 =>
  if (v16 = 0) → (0 ≤ v6 ∧ v6 < (a0_p.Ts.length : Int)) then
  if (v16 = 0) → (¬ ((gi a0_p.Ts v6) < 0) → (0 ≤ v6 ∧ v6 < (a0_p.Ts.length : Int))) then
  if (v16 = 0) → (¬ ((gi a0_p.Ts v6) < 0) → (I64 (a0_p.W * a0_p.H))) then
  Option.bind (α := Int) (if (v16 = 0) ∧ (((gi a0_p.Ts v6) < 0) ∨ ((a0_p.W * a0_p.H) ≤ (gi a0_p.Ts v6))) then
  some 3
  else
  some v16) fun v23 =>
  Option.bind (α := List Int) (if v23 = 0 then
  if 0 ≤ v6 ∧ v6 < (a0_p.Ts.length : Int) then
  Option.bind (throngref10_Redo a0_p.W a0_p.H a0_p.Free a0_p.Parts (gi a0_p.Ts v6)) fun x51 =>
  some x51
  else none
  else
  some []) fun v25 =>
  Option.bind (throngref0_CopyNumbers a0_p.Parts) fun x27 =>
  if 0 ≤ v6 ∧ v6 < (a0_p.Ts.length : Int) then
  Option.bind (sector_Redo a0_p.W a0_p.H a0_p.Free x27 (gi a0_p.Ts v6)) fun x32 =>
  Option.bind (thronglaw10_num x32.2) fun x34 =>
  Option.bind (if ¬ x34 = v23 then
  some true
  else
  Option.bind (throngref0_EqNumbers x32.1 v25) fun x46 =>
  some (!x46)) fun b37 =>
  Option.bind (if b37 = true then
  some true
  else
  Option.bind (throngref0_EqNumbers x27 a0_p.Parts) fun x44 =>
  some (!x44)) fun b40 =>
  if b40 = true then
  some (St.done (Ex.up false))
  else
  if I64 (v6 + 1) then
  some (St.next (v6 + 1))
  else none
  else none
  else none
  else none
  else none
  else none
  else
  some (St.done (Ex.go ()))) 0) fun x => x.then fun _ =>
  Option.bind (thronglaw10_wakes) fun x5 =>
  some x5
noncomputable def thronglaw10_SectorWhole (a0_p : Ask) : Option Bool :=
  Option.bind (thronglaw10_heavy a0_p) fun x2 =>
  if x2 = true then
  some true
  else
  Option.bind (sector_Parts a0_p.W a0_p.H a0_p.Free) fun x4 =>
  Option.bind (thronglaw10_num x4.2) fun x6 =>
  if ¬ x6 = 0 then
  some true
  else
  if I64 (a0_p.W * a0_p.H) then
  if ¬ (x4.1.length : Int) = (a0_p.W * a0_p.H) then
  some false
  else
  if 0 ≤ (x4.1.length : Int) ∧ (x4.1.length : Int) ≤ 35184372088832 then
  Option.bind (α := Ex (List Int) (Bool)) (loop (σ := Int × List Int) (β := Ex (List Int) (Bool)) (fun (v21, l22) =>
  if v21 < (x4.1.length : Int) then
  Option.bind (sector_Of a0_p.W a0_p.H v21) fun x27 =>
  Option.bind (thronglaw10_num x27.2) fun x28 =>
  if ¬ (¬ x28 = 0) → (0 ≤ v21 ∧ v21 < (x4.1.length : Int)) then
  if ¬ (¬ x28 = 0) → (0 ≤ v21 ∧ v21 < (a0_p.Free.length : Int)) then
  if ¬ ((¬ x28 = 0) ∨ (¬ (decide (0 ≤ (gi x4.1 v21))) = (gi a0_p.Free v21))) → (0 ≤ v21 ∧ v21 < (x4.1.length : Int)) then
  if ((¬ x28 = 0) ∨ (¬ (decide (0 ≤ (gi x4.1 v21))) = (gi a0_p.Free v21))) ∨ (v21 < (gi x4.1 v21)) then
  some (St.done (Ex.up false))
  else
  if 0 ≤ v21 ∧ v21 ≤ 9223372036854775807 ∧ (1 : Int) ≤ a0_p.W then
  if 0 ≤ (v21 % a0_p.W) ∧ (v21 % a0_p.W) ≤ 9223372036854775807 then
  if (((v21 % a0_p.W) % 8) = 0) → (0 ≤ v21 ∧ v21 ≤ 9223372036854775807 ∧ (1 : Int) ≤ a0_p.W) then
  if (((v21 % a0_p.W) % 8) = 0) → (0 ≤ (v21 / a0_p.W) ∧ (v21 / a0_p.W) ≤ 9223372036854775807) then
  Option.bind (α := Ex (List Int) (St (Int × List Int) (Ex (List Int) (Bool)))) (if (((v21 % a0_p.W) % 8) = 0) ∧ (((v21 / a0_p.W) % 8) = 0) then
  Option.bind (sector_Redo a0_p.W a0_p.H a0_p.Free l22 v21) fun x98 =>
  Option.bind (thronglaw10_num x98.2) fun x100 =>
  if ¬ x100 = 0 then
  some (Ex.up (St.done (Ex.up false)))
  else
  some (Ex.go x98.1)
  else
  some (Ex.go l22)) fun x => x.then fun v44 =>
  if 0 ≤ v21 ∧ v21 < (a0_p.Free.length : Int) then
  if (!(gi a0_p.Free v21)) = true then
  if I64 (v21 + 1) then
  some (St.next ((v21 + 1), v44))
  else none
  else
  if 0 ≤ v21 ∧ v21 < (x4.1.length : Int) then
  Option.bind (sector_Of a0_p.W a0_p.H (gi x4.1 v21)) fun x54 =>
  Option.bind (thronglaw10_num x54.2) fun x55 =>
  if ¬ ((¬ x55 = 0) ∨ (¬ x54.1 = x27.1)) → (0 ≤ v21 ∧ v21 < (x4.1.length : Int)) then
  if ¬ ((¬ x55 = 0) ∨ (¬ x54.1 = x27.1)) → (0 ≤ (gi x4.1 v21) ∧ (gi x4.1 v21) < (x4.1.length : Int)) then
  if ¬ ((¬ x55 = 0) ∨ (¬ x54.1 = x27.1)) → (0 ≤ v21 ∧ v21 < (x4.1.length : Int)) then
  if ((¬ x55 = 0) ∨ (¬ x54.1 = x27.1)) ∨ (¬ (gi x4.1 (gi x4.1 v21)) = (gi x4.1 v21)) then
  some (St.done (Ex.up false))
  else
  if I64 (v21 + 1) then
  if 0 ≤ v21 ∧ v21 ≤ 9223372036854775807 ∧ (1 : Int) ≤ a0_p.W then
  if I64 (a0_p.W - 1) then
  if ((v21 % a0_p.W) < (a0_p.W - 1)) → (0 ≤ (v21 + 1) ∧ (v21 + 1) < (a0_p.Free.length : Int)) then
  Option.bind (if ((v21 % a0_p.W) < (a0_p.W - 1)) ∧ ((gi a0_p.Free (v21 + 1)) = true) then
  Option.bind (thronglaw10_same a0_p (v21 + 1) x27.1) fun x96 =>
  some x96
  else
  some false) fun b72 =>
  if (b72 = true) → (0 ≤ (v21 + 1) ∧ (v21 + 1) < (x4.1.length : Int)) then
  if (b72 = true) → (0 ≤ v21 ∧ v21 < (x4.1.length : Int)) then
  if (b72 = true) ∧ (¬ (gi x4.1 (v21 + 1)) = (gi x4.1 v21)) then
  some (St.done (Ex.up false))
  else
  if I64 (v21 + a0_p.W) then
  if 0 ≤ v21 ∧ v21 ≤ 9223372036854775807 ∧ (1 : Int) ≤ a0_p.W then
  if I64 (a0_p.H - 1) then
  if ((v21 / a0_p.W) < (a0_p.H - 1)) → (0 ≤ (v21 + a0_p.W) ∧ (v21 + a0_p.W) < (a0_p.Free.length : Int)) then
  Option.bind (if ((v21 / a0_p.W) < (a0_p.H - 1)) ∧ ((gi a0_p.Free (v21 + a0_p.W)) = true) then
  Option.bind (thronglaw10_same a0_p (v21 + a0_p.W) x27.1) fun x94 =>
  some x94
  else
  some false) fun b86 =>
  if (b86 = true) → (0 ≤ (v21 + a0_p.W) ∧ (v21 + a0_p.W) < (x4.1.length : Int)) then
  if (b86 = true) → (0 ≤ v21 ∧ v21 < (x4.1.length : Int)) then
  if (b86 = true) ∧ (¬ (gi x4.1 (v21 + a0_p.W)) = (gi x4.1 v21)) then
  some (St.done (Ex.up false))
  else
  if I64 (v21 + 1) then
  some (St.next ((v21 + 1), v44))
  else none
  else none
  else none
  else none
  else none
  else none
  else none
  else none
  else none
  else none
  else none
  else none
  else none
  else none
  else none
  else none
  else none
  else none
  else none
  else none
  else none
  else none
  else none
  else none
  else none
  else
  some (St.done (Ex.go l22))) (0, (List.replicate (x4.1.length : Int).toNat 0))) fun x => x.then fun v13 =>
  Option.bind (throngref0_EqNumbers v13 x4.1) fun x15 =>
  Option.bind (if x15 = true then
  Option.bind (thronglaw10_wakes) fun x20 =>
  some x20
  else
  some false) fun b18 =>
  some b18
  else none
  else none
noncomputable def thronglaw10_SectorEdges (a0_p : Ask) : Option Bool :=
  Option.bind (α := Ex (Unit) (Bool)) (loop (σ := Int) (β := Ex (Unit) (Bool)) (fun v24 =>
  if v24 ≤ 40 then
  Option.bind (α := Ex (Unit) (St (Int) (Ex (Unit) (Bool)))) (loop (σ := Int) (β := Ex (Unit) (St (Int) (Ex (Unit) (Bool)))) (fun v31 =>
  if v31 ≤ 40 then
  Option.bind (sector_Count v24 v31) fun x34 =>
  Option.bind (sector_Of v24 v31 0) fun x35 =>
  if I64 (v24 * v31) then
  if I64 ((v24 * v31) - 1) then
  Option.bind (sector_Of v24 v31 ((v24 * v31) - 1)) fun x38 =>
  if I64 (v24 - 1) then
  Option.bind (sector_Of v24 v31 (v24 - 1)) fun x40 =>
  Option.bind (thronglaw10_num x34.2) fun x41 =>
  Option.bind (if ¬ x41 = 0 then
  some true
  else
  Option.bind (thronglaw10_num x35.2) fun x77 =>
  some (decide (¬ x77 = 0))) fun b44 =>
  Option.bind (if b44 = true then
  some true
  else
  Option.bind (thronglaw10_num x38.2) fun x75 =>
  some (decide (¬ x75 = 0))) fun b47 =>
  Option.bind (if b47 = true then
  some true
  else
  Option.bind (thronglaw10_num x40.2) fun x73 =>
  some (decide (¬ x73 = 0))) fun b50 =>
  if ¬ (b50 = true) → (I64 (v24 + 7)) then
  if ¬ (b50 = true) → (0 ≤ (v24 + 7) ∧ (v24 + 7) ≤ 9223372036854775807) then
  if ¬ (b50 = true) → (I64 (v31 + 7)) then
  if ¬ (b50 = true) → (0 ≤ (v31 + 7) ∧ (v31 + 7) ≤ 9223372036854775807) then
  if ¬ (b50 = true) → (I64 (((v24 + 7) / 8) * ((v31 + 7) / 8))) then
  if ¬ (((b50 = true) ∨ (¬ x34.1 = (((v24 + 7) / 8) * ((v31 + 7) / 8)))) ∨ (¬ x35.1 = 0)) → (I64 (x34.1 - 1)) then
  if ¬ ((((b50 = true) ∨ (¬ x34.1 = (((v24 + 7) / 8) * ((v31 + 7) / 8)))) ∨ (¬ x35.1 = 0)) ∨ (¬ x38.1 = (x34.1 - 1))) → (I64 (v24 + 7)) then
  if ¬ ((((b50 = true) ∨ (¬ x34.1 = (((v24 + 7) / 8) * ((v31 + 7) / 8)))) ∨ (¬ x35.1 = 0)) ∨ (¬ x38.1 = (x34.1 - 1))) → (0 ≤ (v24 + 7) ∧ (v24 + 7) ≤ 9223372036854775807) then
  if ¬ ((((b50 = true) ∨ (¬ x34.1 = (((v24 + 7) / 8) * ((v31 + 7) / 8)))) ∨ (¬ x35.1 = 0)) ∨ (¬ x38.1 = (x34.1 - 1))) → (I64 (((v24 + 7) / 8) - 1)) then
  if ((((b50 = true) ∨ (¬ x34.1 = (((v24 + 7) / 8) * ((v31 + 7) / 8)))) ∨ (¬ x35.1 = 0)) ∨ (¬ x38.1 = (x34.1 - 1))) ∨ (¬ x40.1 = (((v24 + 7) / 8) - 1)) then
  some (St.done (Ex.up (St.done (Ex.up false))))
  else
  if I64 (v31 + 1) then
  if 0 ≤ v31 ∧ v31 ≤ 9223372036854775807 then
  if I64 ((v31 + 1) + (v31 / 6)) then
  some (St.next ((v31 + 1) + (v31 / 6)))
  else none
  else none
  else none
  else none
  else none
  else none
  else none
  else none
  else none
  else none
  else none
  else none
  else none
  else none
  else none
  else
  some (St.done (Ex.go ()))) 1) fun x => x.then fun _ =>
  if I64 (v24 + 1) then
  if 0 ≤ v24 ∧ v24 ≤ 9223372036854775807 then
  if I64 ((v24 + 1) + (v24 / 6)) then
  some (St.next ((v24 + 1) + (v24 / 6)))
  else none
  else none
  else none
  else
  some (St.done (Ex.go ()))) 1) fun x => x.then fun _ =>
  Option.bind (sector_Count 0 1) fun x3 =>
  Option.bind (sector_Count 1 129) fun x4 =>
  Option.bind (sector_Of 3 3 9) fun x5 =>
  Option.bind (thronglaw10_num x3.2) fun x6 =>
  Option.bind (if x6 = 1 then
  Option.bind (thronglaw10_num x4.2) fun x23 =>
  some (decide (x23 = 1))
  else
  some false) fun b9 =>
  Option.bind (if b9 = true then
  Option.bind (thronglaw10_num x5.2) fun x21 =>
  some (decide (x21 = 3))
  else
  some false) fun b12 =>
  Option.bind (if (b12 = true) ∧ (0 ≤ (a0_p.Ts.length : Int)) then
  Option.bind (thronglaw10_wakes) fun x19 =>
  some x19
  else
  some false) fun b17 =>
  some b17
end Go.Proofs.Ytacpdjccbadomaa
