/-
  What routes are made of, as pure functions.
-/
import Derived.Test.YthdbofgcckjopaaGreatRows
import Derived.Test.YthdbofgcckjopaaGreatFG
import Derived.Test.YthdbofgcckjopaaGreatPQS
import Derived.Test.YthdbofgcckjopaaGreatRO
import Derived.Test.YthdbofgcckjopaaGreatZC
import Derived.Test.YthdbofgcckjopaaGreatW3
set_option linter.unusedVariables false
set_option linter.unusedSimpArgs false
set_option maxRecDepth 20000
set_option maxHeartbeats 4000000
namespace Go.Proofs.YthdbofgcckjopaaGreat
open Go.Vg
open Enc (R)
def sector_At (a0_w : Int) (a1_t : Int) : Option Int :=
  if 0 ≤ a1_t ∧ a1_t ≤ 9223372036854775807 ∧ (1 : Int) ≤ a0_w then
  if 0 ≤ (a1_t % a0_w) ∧ (a1_t % a0_w) ≤ 9223372036854775807 then
  Option.bind (sector_across a0_w) fun x3 =>
  if 0 ≤ a1_t ∧ a1_t ≤ 9223372036854775807 ∧ (1 : Int) ≤ a0_w then
  if 0 ≤ (a1_t / a0_w) ∧ (a1_t / a0_w) ≤ 9223372036854775807 then
  if I64 (x3 * ((a1_t / a0_w) / 8)) then
  if I64 (((a1_t % a0_w) / 8) + (x3 * ((a1_t / a0_w) / 8))) then
  some (((a1_t % a0_w) / 8) + (x3 * ((a1_t / a0_w) / 8)))
  else none
  else none
  else none
  else none
  else none
  else none
def sector_Tiles (a0_w : Int) (a1_h : Int) (a2_s : Int) : Option (List Int) :=
  Option.bind (sector_across a0_w) fun x1 =>
  if 0 ≤ a2_s ∧ a2_s ≤ 9223372036854775807 ∧ (1 : Int) ≤ x1 then
  if I64 ((a2_s % x1) * 8) then
  Option.bind (sector_across a0_w) fun x4 =>
  if 0 ≤ a2_s ∧ a2_s ≤ 9223372036854775807 ∧ (1 : Int) ≤ x4 then
  if I64 ((a2_s / x4) * 8) then
  Option.bind (α := List Int) (loop (σ := List Int × Int) (β := List Int) (fun (l10, v12) =>
  if I64 (((a2_s / x4) * 8) + 8) then
  if v12 < (min (((a2_s / x4) * 8) + 8) a1_h) then
  Option.bind (α := List Int) (loop (σ := Int × List Int) (β := List Int) (fun (v20, l21) =>
  if I64 (((a2_s % x1) * 8) + 8) then
  if v20 < (min (((a2_s % x1) * 8) + 8) a0_w) then
  if I64 (a0_w * v12) then
  if I64 (v20 + (a0_w * v12)) then
  if l21.length < 1099511627776 then
  if I64 (v20 + 1) then
  some (St.next ((v20 + 1), (l21 ++ [(v20 + (a0_w * v12))])))
  else none
  else none
  else none
  else none
  else
  some (St.done l21)
  else none) (((a2_s % x1) * 8), l10)) fun v17 =>
  if I64 (v12 + 1) then
  some (St.next (v17, (v12 + 1)))
  else none
  else
  some (St.done l10)
  else none) ([], ((a2_s / x4) * 8))) fun v8 =>
  some v8
  else none
  else none
  else none
  else none
def portal_border (a0_free : List Bool) (a1_a : Int) (a2_over : Int) (a3_step : Int) (a4_n : Int) : Option (List Prt) :=
  if I64 (a4_n + 1) then
  Option.bind (α := List Prt) (loop (σ := List Prt × Int × Int) (β := List Prt) (fun (l5, v7, v8) =>
  if v8 < (a4_n + 1) then
  if I64 (a3_step * v8) then
  if I64 (a1_a + (a3_step * v8)) then
  if (v8 < a4_n) → (0 ≤ (a1_a + (a3_step * v8)) ∧ (a1_a + (a3_step * v8)) < (a0_free.length : Int)) then
  if ((v8 < a4_n) ∧ ((gi a0_free (a1_a + (a3_step * v8))) = true)) → (I64 ((a1_a + (a3_step * v8)) + a2_over)) then
  if ((v8 < a4_n) ∧ ((gi a0_free (a1_a + (a3_step * v8))) = true)) → (0 ≤ ((a1_a + (a3_step * v8)) + a2_over) ∧ ((a1_a + (a3_step * v8)) + a2_over) < (a0_free.length : Int)) then
  if ((v8 < a4_n) ∧ ((gi a0_free (a1_a + (a3_step * v8))) = true)) ∧ ((gi a0_free ((a1_a + (a3_step * v8)) + a2_over)) = true) then
  if I64 (v7 + 1) then
  if I64 (v8 + 1) then
  some (St.next (l5, (v7 + 1), (v8 + 1)))
  else none
  else none
  else
  if 0 < v7 then
  if I64 (a3_step * v7) then
  if I64 ((a1_a + (a3_step * v8)) - (a3_step * v7)) then
  if I64 (v7 - 1) then
  if 0 ≤ (v7 - 1) ∧ (v7 - 1) ≤ 9223372036854775807 then
  if I64 (a3_step * ((v7 - 1) / 2)) then
  if I64 (((a1_a + (a3_step * v8)) - (a3_step * v7)) + (a3_step * ((v7 - 1) / 2))) then
  if I64 ((((a1_a + (a3_step * v8)) - (a3_step * v7)) + (a3_step * ((v7 - 1) / 2))) + a2_over) then
  if l5.length < 1099511627776 then
  if I64 (v8 + 1) then
  some (St.next ((l5 ++ [(⟨(((a1_a + (a3_step * v8)) - (a3_step * v7)) + (a3_step * ((v7 - 1) / 2))), ((((a1_a + (a3_step * v8)) - (a3_step * v7)) + (a3_step * ((v7 - 1) / 2))) + a2_over), v7⟩ : Prt)]), 0, (v8 + 1)))
  else none
  else none
  else none
  else none
  else none
  else none
  else none
  else none
  else none
  else
  if I64 (v8 + 1) then
  some (St.next (l5, 0, (v8 + 1)))
  else none
  else none
  else none
  else none
  else none
  else none
  else
  some (St.done l5)) ([], 0, 0)) fun v3 =>
  some v3
  else none
def portal_All (a0_w : Int) (a1_h : Int) (a2_free : List Bool) : Option (List Prt) :=
  Option.bind (α := List Prt) (loop (σ := List Prt × Int) (β := List Prt) (fun (l5, v7) =>
  if v7 < a1_h then
  Option.bind (α := List Prt) (loop (σ := Int × List Prt) (β := List Prt) (fun (v14, l15) =>
  if v14 < a0_w then
  if I64 (v14 + 8) then
  Option.bind (α := List Prt) (if (v14 + 8) < a0_w then
  if I64 (v14 + 8) then
  if I64 ((v14 + 8) - 1) then
  if I64 (a0_w * v7) then
  if I64 (((v14 + 8) - 1) + (a0_w * v7)) then
  if I64 (a1_h - v7) then
  Option.bind (portal_border a2_free (((v14 + 8) - 1) + (a0_w * v7)) 1 a0_w (min 8 (a1_h - v7))) fun x42 =>
  if l15.length + x42.length < 1099511627776 then
  some (l15 ++ x42)
  else none
  else none
  else none
  else none
  else none
  else none
  else
  some l15) fun v21 =>
  if I64 (v7 + 8) then
  if (v7 + 8) < a1_h then
  if I64 (v7 + 8) then
  if I64 ((v7 + 8) - 1) then
  if I64 (a0_w * ((v7 + 8) - 1)) then
  if I64 (v14 + (a0_w * ((v7 + 8) - 1))) then
  if I64 (a0_w - v14) then
  Option.bind (portal_border a2_free (v14 + (a0_w * ((v7 + 8) - 1))) a0_w 1 (min 8 (a0_w - v14))) fun x30 =>
  if v21.length + x30.length < 1099511627776 then
  if I64 (v14 + 8) then
  some (St.next ((v14 + 8), (v21 ++ x30)))
  else none
  else none
  else none
  else none
  else none
  else none
  else none
  else
  if I64 (v14 + 8) then
  some (St.next ((v14 + 8), v21))
  else none
  else none
  else none
  else
  some (St.done l15)) (0, l5)) fun v11 =>
  if I64 (v7 + 8) then
  some (St.next (v11, (v7 + 8)))
  else none
  else
  some (St.done l5)) ([], 0)) fun v2 =>
  Option.bind (slices_SortFuncP v2) fun x4 =>
  some x4
def portal_Find (a0_w : Int) (a1_h : Int) (a2_free : List Bool) : Option (List Prt × Int) :=
  Option.bind (sector_May a0_w a1_h) fun x1 =>
  if ¬ ((!x1) = true) → (I64 (a0_w * a1_h)) then
  if ((!x1) = true) ∨ (¬ (a2_free.length : Int) = (a0_w * a1_h)) then
  some ([], 1)
  else
  Option.bind (portal_All a0_w a1_h a2_free) fun x6 =>
  some (x6, 0)
  else none
def cmp_Or (a0_vals : List Int) : Option Int :=
  Option.bind (α := Ex (Unit) (Int)) (loop (σ := Int) (β := Ex (Unit) (Int)) (fun v2 =>
  if v2 < (a0_vals.length : Int) then
  if 0 ≤ v2 ∧ v2 < (a0_vals.length : Int) then
  if ¬ (gi a0_vals v2) = 0 then
  some (St.done (Ex.up (gi a0_vals v2)))
  else
  if I64 (v2 + 1) then
  some (St.next (v2 + 1))
  else none
  else none
  else
  some (St.done (Ex.go ()))) 0) fun x => x.then fun _ =>
  some 0
def slices_Compare (a0_s1 : List Int) (a1_s2 : List Int) : Option Int :=
  Option.bind (α := Ex (Unit) (Int)) (loop (σ := Int) (β := Ex (Unit) (Int)) (fun v3 =>
  if v3 < (a0_s1.length : Int) then
  if 0 ≤ v3 ∧ v3 < (a0_s1.length : Int) then
  if (a1_s2.length : Int) ≤ v3 then
  some (St.done (Ex.up 1))
  else
  if 0 ≤ v3 ∧ v3 < (a1_s2.length : Int) then
  Option.bind (cmp_Compare (gi a0_s1 v3) (gi a1_s2 v3)) fun x13 =>
  if ¬ x13 = 0 then
  some (St.done (Ex.up x13))
  else
  if I64 (v3 + 1) then
  some (St.next (v3 + 1))
  else none
  else none
  else none
  else
  some (St.done (Ex.go ()))) 0) fun x => x.then fun _ =>
  if (a0_s1.length : Int) < (a1_s2.length : Int) then
  some (-1)
  else
  some 0
def route_label_less (a0_a : Lbl) (a1_b : Lbl) : Option Bool :=
  Option.bind (cmp_Compare a0_a.cost a1_b.cost) fun x3 =>
  Option.bind (cmp_Compare (a0_a.l.length : Int) (a1_b.l.length : Int)) fun x4 =>
  Option.bind (slices_Compare a0_a.l a1_b.l) fun x5 =>
  Option.bind (cmp_Or [x3, x4, x5]) fun x7 =>
  some (decide (x7 < 0))
def route_maze_tile (a0_m : Mz) (a1_place : Int) : Option Int :=
  if 0 ≤ a1_place ∧ a1_place ≤ 9223372036854775807 then
  if (a1_place % 2) = 0 then
  if 0 ≤ a1_place ∧ a1_place ≤ 9223372036854775807 then
  if 0 ≤ (a1_place / 2) ∧ (a1_place / 2) < (a0_m.ps.length : Int) then
  some (gi a0_m.ps (a1_place / 2)).a
  else none
  else none
  else
  if 0 ≤ a1_place ∧ a1_place ≤ 9223372036854775807 then
  if 0 ≤ (a1_place / 2) ∧ (a1_place / 2) < (a0_m.ps.length : Int) then
  some (gi a0_m.ps (a1_place / 2)).b
  else none
  else none
  else none
def route_maze_spot (a0_m : Mz) (a1_t : Int) : Option Int :=
  if 0 ≤ a1_t ∧ a1_t ≤ 9223372036854775807 ∧ (1 : Int) ≤ a0_m.net.g.w then
  if 0 ≤ (a1_t % a0_m.net.g.w) ∧ (a1_t % a0_m.net.g.w) ≤ 9223372036854775807 then
  if 0 ≤ a1_t ∧ a1_t ≤ 9223372036854775807 ∧ (1 : Int) ≤ a0_m.net.g.w then
  if 0 ≤ (a1_t / a0_m.net.g.w) ∧ (a1_t / a0_m.net.g.w) ≤ 9223372036854775807 then
  if I64 (8 * ((a1_t / a0_m.net.g.w) % 8)) then
  if I64 (((a1_t % a0_m.net.g.w) % 8) + (8 * ((a1_t / a0_m.net.g.w) % 8))) then
  some (((a1_t % a0_m.net.g.w) % 8) + (8 * ((a1_t / a0_m.net.g.w) % 8)))
  else none
  else none
  else none
  else none
  else none
  else none
def route_maze_over (a0_m : Mz) (a1_k : Int) : Option Int :=
  if 0 ≤ a1_k ∧ a1_k < (a0_m.ps.length : Int) then
  if 0 ≤ (gi a0_m.ps a1_k).a ∧ (gi a0_m.ps a1_k).a < (a0_m.net.g.tiles.length : Int) then
  Option.bind (kind_Price a0_m.net.cls ((gi a0_m.net.g.tiles ((gi a0_m.ps a1_k).a)).toNat : Int)) fun x8 =>
  if 0 ≤ (gi a0_m.ps a1_k).b ∧ (gi a0_m.ps a1_k).b < (a0_m.net.g.tiles.length : Int) then
  Option.bind (kind_Price a0_m.net.cls ((gi a0_m.net.g.tiles ((gi a0_m.ps a1_k).b)).toNat : Int)) fun x10 =>
  if I64 (x8 + x10) then
  if I64 (5 * (x8 + x10)) then
  some (5 * (x8 + x10))
  else none
  else none
  else none
  else none
  else none
def route_maze_sectors (a0_m : Mz) (a1_start : Int) (a2_l : List Int) : Option (List Int) :=
  Option.bind (sector_At a0_m.net.g.w a1_start) fun x1 =>
  Option.bind (α := List Int) (loop (σ := Int × Int × List Int) (β := List Int) (fun (v6, v7, l8) =>
  if v7 < (a2_l.length : Int) then
  if 0 ≤ v7 ∧ v7 < (a2_l.length : Int) then
  if 0 ≤ (gi a2_l v7) ∧ (gi a2_l v7) < (a0_m.ps.length : Int) then
  Option.bind (sector_At a0_m.net.g.w ((gi a0_m.ps (gi a2_l v7)).a)) fun x20 =>
  Option.bind (sector_At a0_m.net.g.w ((gi a0_m.ps (gi a2_l v7)).b)) fun x21 =>
  if v6 = x20 then
  if l8.length < 1099511627776 then
  if I64 (v7 + 1) then
  some (St.next (x21, (v7 + 1), (l8 ++ [x21])))
  else none
  else none
  else
  if l8.length < 1099511627776 then
  if I64 (v7 + 1) then
  some (St.next (x20, (v7 + 1), (l8 ++ [x20])))
  else none
  else none
  else none
  else none
  else
  some (St.done l8)) (x1, 0, [x1])) fun v4 =>
  some v4
end Go.Proofs.YthdbofgcckjopaaGreat
