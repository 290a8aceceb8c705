/-
  The statements of the fields and all that they call, as pure functions.
-/
import Derived.Test.YthdbofgcckjopaaGreatRows
import Derived.Test.YthdbofgcckjopaaGreatBG
import Derived.Test.YthdbofgcckjopaaGreatFO
set_option linter.unusedVariables false
set_option linter.unusedSimpArgs false
set_option maxRecDepth 20000
set_option maxHeartbeats 4000000
namespace Go.Proofs.YthdbofgcckjopaaGreat
open Go.Vg
open Enc (R)
def kind_Class (a0_c : Int) : Option Bool :=
  some (decide ((0 ≤ a0_c) ∧ (a0_c ≤ 2)))
def kind_Price (a0_class : Int) (a1_terrain : Int) : Option Int :=
  if a0_class = 0 then
  if (List.replicate 6 0).length = 6 ∧ [2, 1, 3, 5, 0, 0].length = 6 then
  if 0 ≤ a1_terrain ∧ a1_terrain < (6 : Int) ∧ [2, 1, 3, 5, 0, 0].length = 6 then
  some (gi [2, 1, 3, 5, 0, 0] a1_terrain)
  else none
  else none
  else
  if a0_class = 1 then
  if (List.replicate 6 0).length = 6 ∧ [2, 1, 6, 0, 0, 0].length = 6 then
  if 0 ≤ a1_terrain ∧ a1_terrain < (6 : Int) ∧ [2, 1, 6, 0, 0, 0].length = 6 then
  some (gi [2, 1, 6, 0, 0, 0] a1_terrain)
  else none
  else none
  else
  if (List.replicate 6 0).length = 6 ∧ [2, 1, 0, 3, 2, 0].length = 6 then
  if 0 ≤ a1_terrain ∧ a1_terrain < (6 : Int) ∧ [2, 1, 0, 3, 2, 0].length = 6 then
  some (gi [2, 1, 0, 3, 2, 0] a1_terrain)
  else none
  else none
def ground_Ways : Option (List Int) :=
  if (List.replicate 16 0).length = 16 ∧ [0, (-1), 1, 0, 0, 1, (-1), 0, 1, (-1), 1, 1, (-1), 1, (-1), (-1)].length = 16 then
  if [0, (-1), 1, 0, 0, 1, (-1), 0, 1, (-1), 1, 1, (-1), 1, (-1), (-1)].length = 16 then
  some [0, (-1), 1, 0, 0, 1, (-1), 0, 1, (-1), 1, 1, (-1), 1, (-1), (-1)]
  else none
  else none
def ground_Beside (a0_g : Grd) (a1_t : Int) : Option (List Int) :=
  if 0 ≤ a1_t ∧ a1_t ≤ 9223372036854775807 ∧ (1 : Int) ≤ a0_g.w then
  if 0 ≤ a1_t ∧ a1_t ≤ 9223372036854775807 ∧ (1 : Int) ≤ a0_g.w then
  Option.bind (ground_Ways) fun x5 =>
  Option.bind (α := List Int) (loop (σ := Int × List Int) (β := List Int) (fun (v11, v12) =>
  if v11 < 8 then
  if 0 ≤ v11 ∧ v11 < (8 : Int) ∧ x5.length = 16 then
  if 0 ≤ v11 ∧ v11 < (8 : Int) ∧ v12.length = 8 then
  if I64 ((a1_t % a0_g.w) + (gi x5 (2 * v11))) then
  if I64 ((a1_t / a0_g.w) + (gi x5 (2 * v11 + 1))) then
  Option.bind (ground_On a0_g ((a1_t % a0_g.w) + (gi x5 (2 * v11))) ((a1_t / a0_g.w) + (gi x5 (2 * v11 + 1)))) fun x20 =>
  if x20 = true then
  if I64 ((a1_t % a0_g.w) + (gi x5 (2 * v11))) then
  if I64 ((a1_t / a0_g.w) + (gi x5 (2 * v11 + 1))) then
  if I64 (a0_g.w * ((a1_t / a0_g.w) + (gi x5 (2 * v11 + 1)))) then
  if I64 (((a1_t % a0_g.w) + (gi x5 (2 * v11))) + (a0_g.w * ((a1_t / a0_g.w) + (gi x5 (2 * v11 + 1))))) then
  if 0 ≤ v11 ∧ v11 < (8 : Int) ∧ (si v12 v11 (-1)).length = 8 then
  if I64 (v11 + 1) then
  some (St.next ((v11 + 1), (si (si v12 v11 (-1)) v11 (((a1_t % a0_g.w) + (gi x5 (2 * v11))) + (a0_g.w * ((a1_t / a0_g.w) + (gi x5 (2 * v11 + 1))))))))
  else none
  else none
  else none
  else none
  else none
  else none
  else
  if I64 (v11 + 1) then
  some (St.next ((v11 + 1), (si v12 v11 (-1))))
  else none
  else none
  else none
  else none
  else none
  else
  some (St.done v12)) (0, (List.replicate 8 0))) fun v7 =>
  if v7.length = 8 then
  if v7.length = 8 ∧ v7.length = 8 then
  if v7.length = 8 then
  some v7
  else none
  else none
  else none
  else none
  else none
def clear_pass (a0_g : Grd) (a1_k : List Int) (a2_t : Int) (a3_ways : List Pr2) : Option (List Int) :=
  if 0 ≤ a2_t ∧ a2_t ≤ 9223372036854775807 ∧ (1 : Int) ≤ a0_g.w then
  if 0 ≤ a2_t ∧ a2_t ≤ 9223372036854775807 ∧ (1 : Int) ≤ a0_g.w then
  Option.bind (α := List Int) (loop (σ := Int × List Int) (β := List Int) (fun (v6, l7) =>
  if v6 < (a3_ways.length : Int) then
  if 0 ≤ v6 ∧ v6 < (a3_ways.length : Int) then
  if I64 ((a2_t % a0_g.w) + ((gi a3_ways v6).a)) then
  if I64 ((a2_t / a0_g.w) + ((gi a3_ways v6).b)) then
  Option.bind (ground_On a0_g ((a2_t % a0_g.w) + ((gi a3_ways v6).a)) ((a2_t / a0_g.w) + ((gi a3_ways v6).b))) fun x16 =>
  Option.bind (α := Int) (if x16 = true then
  if I64 ((a2_t % a0_g.w) + ((gi a3_ways v6).a)) then
  if I64 ((a2_t / a0_g.w) + ((gi a3_ways v6).b)) then
  if I64 (a0_g.w * ((a2_t / a0_g.w) + ((gi a3_ways v6).b))) then
  if I64 (((a2_t % a0_g.w) + ((gi a3_ways v6).a)) + (a0_g.w * ((a2_t / a0_g.w) + ((gi a3_ways v6).b)))) then
  if 0 ≤ (((a2_t % a0_g.w) + ((gi a3_ways v6).a)) + (a0_g.w * ((a2_t / a0_g.w) + ((gi a3_ways v6).b)))) ∧ (((a2_t % a0_g.w) + ((gi a3_ways v6).a)) + (a0_g.w * ((a2_t / a0_g.w) + ((gi a3_ways v6).b)))) < (a1_k.length : Int) then
  some (gi l7 (((a2_t % a0_g.w) + ((gi a3_ways v6).a)) + (a0_g.w * ((a2_t / a0_g.w) + ((gi a3_ways v6).b)))))
  else none
  else none
  else none
  else none
  else none
  else
  some 0) fun v18 =>
  if 0 ≤ a2_t ∧ a2_t < (a1_k.length : Int) then
  if I64 (v18 + 1) then
  if 0 ≤ a2_t ∧ a2_t < (a1_k.length : Int) then
  if I64 (v6 + 1) then
  some (St.next ((v6 + 1), (si l7 a2_t (min (gi l7 a2_t) (v18 + 1)))))
  else none
  else none
  else none
  else none
  else none
  else none
  else none
  else
  some (St.done l7)) (0, a1_k)) fun v5 =>
  some v5
  else none
  else none
def clear_Tiles (a0_g : Grd) (a1_l : List Bld) (a2_class : Int) : Option (List Bool) :=
  Option.bind (build_Cover a0_g a1_l) fun x2 =>
  Option.bind (α := List Bool) (loop (σ := Int × List Bool) (β := List Bool) (fun (v6, l7) =>
  if v6 < (x2.length : Int) then
  if 0 ≤ v6 ∧ v6 < (x2.length : Int) then
  Option.bind (if (!(gi l7 v6)) = true then
  if 0 ≤ v6 ∧ v6 < (a0_g.tiles.length : Int) then
  Option.bind (kind_Price a2_class ((gi a0_g.tiles v6).toNat : Int)) fun x24 =>
  some (decide (0 < x24))
  else none
  else
  some false) fun b16 =>
  if 0 ≤ v6 ∧ v6 < (x2.length : Int) then
  if I64 (v6 + 1) then
  some (St.next ((v6 + 1), (si l7 v6 b16)))
  else none
  else none
  else none
  else
  some (St.done l7)) (0, x2)) fun v5 =>
  some v5
def clear_Room (a0_g : Grd) (a1_l : List Bld) (a2_class : Int) : Option (List Int) :=
  if 0 ≤ (a0_g.tiles.length : Int) ∧ (a0_g.tiles.length : Int) ≤ 35184372088832 then
  Option.bind (clear_Tiles a0_g a1_l a2_class) fun x4 =>
  Option.bind (α := List Int) (loop (σ := Int × List Int) (β := List Int) (fun (v29, l30) =>
  if v29 < (x4.length : Int) then
  if 0 ≤ v29 ∧ v29 < (x4.length : Int) then
  if (gi x4 v29) = true then
  if 0 ≤ v29 ∧ v29 < ((a0_g.tiles.length : Int).toNat : Int) then
  if I64 (v29 + 1) then
  some (St.next ((v29 + 1), (si l30 v29 128)))
  else none
  else none
  else
  if I64 (v29 + 1) then
  some (St.next ((v29 + 1), l30))
  else none
  else none
  else
  some (St.done l30)) (0, (List.replicate (a0_g.tiles.length : Int).toNat 0))) fun v7 =>
  Option.bind (α := List Int) (loop (σ := Int × List Int) (β := List Int) (fun (v21, l22) =>
  if v21 < ((a0_g.tiles.length : Int).toNat : Int) then
  Option.bind (clear_pass a0_g l22 v21 [(⟨(-1), 0⟩ : Pr2), (⟨(-1), (-1)⟩ : Pr2), (⟨0, (-1)⟩ : Pr2), (⟨1, (-1)⟩ : Pr2)]) fun x26 =>
  if I64 (v21 + 1) then
  some (St.next ((v21 + 1), x26))
  else none
  else
  some (St.done l22)) (0, v7)) fun v9 =>
  if I64 (((a0_g.tiles.length : Int).toNat : Int) - 1) then
  Option.bind (α := List Int) (loop (σ := Int × List Int) (β := List Int) (fun (v13, l14) =>
  if 0 ≤ v13 then
  Option.bind (clear_pass a0_g l14 v13 [(⟨1, 0⟩ : Pr2), (⟨1, 1⟩ : Pr2), (⟨0, 1⟩ : Pr2), (⟨(-1), 1⟩ : Pr2)]) fun x18 =>
  if I64 (v13 - 1) then
  some (St.next ((v13 - 1), x18))
  else none
  else
  some (St.done l14)) ((((a0_g.tiles.length : Int).toNat : Int) - 1), v9)) fun v12 =>
  some v12
  else none
  else none
def clear_May (a0_g : Grd) (a1_l : List Bld) (a2_class : Int) : Option Bool :=
  Option.bind (ground_May a0_g) fun x2 =>
  Option.bind (if x2 = true then
  Option.bind (build_May a0_g a1_l) fun x12 =>
  some x12
  else
  some false) fun b5 =>
  Option.bind (if b5 = true then
  Option.bind (kind_Class a2_class) fun x10 =>
  some x10
  else
  some false) fun b8 =>
  some b8
def throngref5_Class (a0_c : Int) : Option Bool :=
  some (decide ((0 ≤ a0_c) ∧ (a0_c ≤ 2)))
def queue_item_less (a0_a : Itm) (a1_b : Itm) : Option Bool :=
  some (decide ((a0_a.key < a1_b.key) ∨ ((a0_a.key = a1_b.key) ∧ (a0_a.val < a1_b.val))))
def queue_New : Option (Option Que) :=
  some (some (⟨([] : List Itm)⟩ : Que))
def queue_Queue_Push (a0_q : Que) (a1_key : Int) (a2_val : Int) : Option Que :=
  if a0_q.l.length < 1099511627776 then
  if I64 (((a0_q.l ++ [(⟨a1_key, a2_val⟩ : Itm)]).length : Int) - 1) then
  Option.bind (α := Ex (List Itm) (Que)) (loop (σ := Int × List Itm) (β := Ex (List Itm) (Que)) (fun (v8, l9) =>
  if 0 < v8 then
  if I64 (v8 - 1) then
  if 0 ≤ (v8 - 1) ∧ (v8 - 1) ≤ 9223372036854775807 then
  if 0 ≤ v8 ∧ v8 < ((a0_q.l ++ [(⟨a1_key, a2_val⟩ : Itm)]).length : Int) then
  if 0 ≤ ((v8 - 1) / 2) ∧ ((v8 - 1) / 2) < ((a0_q.l ++ [(⟨a1_key, a2_val⟩ : Itm)]).length : Int) then
  Option.bind (queue_item_less (gi l9 v8) (gi l9 ((v8 - 1) / 2))) fun x20 =>
  if (!x20) = true then
  some (St.done (Ex.up (⟨l9⟩ : Que)))
  else
  if 0 ≤ ((v8 - 1) / 2) ∧ ((v8 - 1) / 2) < ((a0_q.l ++ [(⟨a1_key, a2_val⟩ : Itm)]).length : Int) then
  if 0 ≤ v8 ∧ v8 < ((a0_q.l ++ [(⟨a1_key, a2_val⟩ : Itm)]).length : Int) then
  if 0 ≤ v8 ∧ v8 < ((a0_q.l ++ [(⟨a1_key, a2_val⟩ : Itm)]).length : Int) then
  if 0 ≤ ((v8 - 1) / 2) ∧ ((v8 - 1) / 2) < ((a0_q.l ++ [(⟨a1_key, a2_val⟩ : Itm)]).length : Int) then
  some (St.next (((v8 - 1) / 2), (si (si l9 v8 (gi l9 ((v8 - 1) / 2))) ((v8 - 1) / 2) (gi l9 v8))))
  else none
  else none
  else none
  else none
  else none
  else none
  else none
  else none
  else
  some (St.done (Ex.go l9))) ((((a0_q.l ++ [(⟨a1_key, a2_val⟩ : Itm)]).length : Int) - 1), (a0_q.l ++ [(⟨a1_key, a2_val⟩ : Itm)]))) fun x => x.then fun v7 =>
  some (⟨v7⟩ : Que)
  else none
  else none
def queue_Queue_Pop (a0_q : Que) : Option (Int × Int × Bool × Que) :=
  if I64 ((a0_q.l.length : Int) - 1) then
  if ((a0_q.l.length : Int) - 1) < 0 then
  some (0, 0, false, a0_q)
  else
  if 0 ≤ (0 : Int) ∧ (0 : Int) < (a0_q.l.length : Int) then
  if 0 ≤ ((a0_q.l.length : Int) - 1) ∧ ((a0_q.l.length : Int) - 1) < (a0_q.l.length : Int) then
  if 0 ≤ (0 : Int) ∧ (0 : Int) < (a0_q.l.length : Int) then
  if 0 ≤ ((a0_q.l.length : Int) - 1) ∧ ((a0_q.l.length : Int) - 1) ≤ (a0_q.l.length : Int) then
  Option.bind (α := List Itm) (loop (σ := Int × List Itm) (β := List Itm) (fun (v14, l15) =>
  if I64 (2 * v14) then
  if I64 ((2 * v14) + 1) then
  if ((a0_q.l.length : Int) - 1) ≤ ((2 * v14) + 1) then
  some (St.done l15)
  else
  if I64 (((2 * v14) + 1) + 1) then
  Option.bind (if (((2 * v14) + 1) + 1) < ((a0_q.l.length : Int) - 1) then
  if I64 (((2 * v14) + 1) + 1) then
  if 0 ≤ (((2 * v14) + 1) + 1) ∧ (((2 * v14) + 1) + 1) < (((a0_q.l.length : Int) - 1).toNat : Int) then
  if 0 ≤ ((2 * v14) + 1) ∧ ((2 * v14) + 1) < (((a0_q.l.length : Int) - 1).toNat : Int) then
  Option.bind (queue_item_less (gi l15 (((2 * v14) + 1) + 1)) (gi l15 ((2 * v14) + 1))) fun x48 =>
  some x48
  else none
  else none
  else none
  else
  some false) fun b23 =>
  Option.bind (α := Int) (if b23 = true then
  if I64 (((2 * v14) + 1) + 1) then
  some (((2 * v14) + 1) + 1)
  else none
  else
  some ((2 * v14) + 1)) fun v25 =>
  if 0 ≤ v25 ∧ v25 < (((a0_q.l.length : Int) - 1).toNat : Int) then
  if 0 ≤ v14 ∧ v14 < (((a0_q.l.length : Int) - 1).toNat : Int) then
  Option.bind (queue_item_less (gi l15 v25) (gi l15 v14)) fun x30 =>
  if (!x30) = true then
  some (St.done l15)
  else
  if 0 ≤ v25 ∧ v25 < (((a0_q.l.length : Int) - 1).toNat : Int) then
  if 0 ≤ v14 ∧ v14 < (((a0_q.l.length : Int) - 1).toNat : Int) then
  if 0 ≤ v14 ∧ v14 < (((a0_q.l.length : Int) - 1).toNat : Int) then
  if 0 ≤ v25 ∧ v25 < (((a0_q.l.length : Int) - 1).toNat : Int) then
  some (St.next (v25, (si (si l15 v14 (gi l15 v25)) v25 (gi l15 v14))))
  else none
  else none
  else none
  else none
  else none
  else none
  else none
  else none
  else none) (0, ((si a0_q.l (0 : Int) (gi a0_q.l ((a0_q.l.length : Int) - 1))).take ((a0_q.l.length : Int) - 1).toNat))) fun v13 =>
  some ((gi a0_q.l (0 : Int)).key, (gi a0_q.l (0 : Int)).val, true, (⟨v13⟩ : Que))
  else none
  else none
  else none
  else none
  else none
def field_May (a0_g : Grd) (a1_l : List Bld) (a2_class : Int) (a3_size : Int) : Option Bool :=
  Option.bind (if (0 ≤ a3_size) ∧ (a3_size ≤ 3) then
  Option.bind (clear_May a0_g a1_l a2_class) fun x8 =>
  some x8
  else
  some false) fun b6 =>
  some b6
def field_Fit (a0_g : Grd) (a1_l : List Bld) (a2_class : Int) (a3_size : Int) : Option (List Bool) :=
  if 0 ≤ (a0_g.tiles.length : Int) ∧ (a0_g.tiles.length : Int) ≤ 281474976710656 then
  Option.bind (clear_Room a0_g a1_l a2_class) fun x4 =>
  Option.bind (α := List Bool) (loop (σ := Int × List Bool) (β := List Bool) (fun (v8, l9) =>
  if v8 < (x4.length : Int) then
  if 0 ≤ v8 ∧ v8 < (x4.length : Int) then
  if 0 ≤ v8 ∧ v8 < ((a0_g.tiles.length : Int).toNat : Int) then
  if I64 (v8 + 1) then
  some (St.next ((v8 + 1), (si l9 v8 (decide (a3_size < (gi x4 v8))))))
  else none
  else none
  else none
  else
  some (St.done l9)) (0, (List.replicate (a0_g.tiles.length : Int).toNat false))) fun v7 =>
  some v7
  else none
def field_Good (a0_g : Grd) (a1_l : List Bld) (a2_class : Int) (a3_size : Int) : Option (List Bool × Int) :=
  Option.bind (field_May a0_g a1_l a2_class a3_size) fun x2 =>
  if (!x2) = true then
  some ([], 1)
  else
  Option.bind (field_Fit a0_g a1_l a2_class a3_size) fun x4 =>
  some (x4, 0)
def field_sides (a0_i : Int) : Option (Int × Int) :=
  if 0 ≤ a0_i ∧ a0_i < (8 : Int) ∧ [0, 0, 0, 0, 0, 1, 2, 3].length = 8 then
  if 0 ≤ a0_i ∧ a0_i < (8 : Int) ∧ [0, 0, 0, 0, 1, 2, 3, 0].length = 8 then
  some ((gi [0, 0, 0, 0, 0, 1, 2, 3] a0_i), (gi [0, 0, 0, 0, 1, 2, 3, 0] a0_i))
  else none
  else none
def field_Net_Step (a0_n : Net) (a1_t : Int) (a2_near : List Int) (a3_way : Int) (a4_in : Int → Option Bool) : Option Int :=
  if 0 ≤ a3_way ∧ a3_way < (8 : Int) ∧ a2_near.length = 8 then
  if ¬ ((gi a2_near a3_way) < 0) → (0 ≤ (gi a2_near a3_way) ∧ (gi a2_near a3_way) < (a0_n.free.length : Int)) then
  Option.bind (if ((gi a2_near a3_way) < 0) ∨ ((!(gi a0_n.free (gi a2_near a3_way))) = true) then
  some true
  else
  Option.bind (a4_in (gi a2_near a3_way)) fun x51 =>
  some (!x51)) fun b8 =>
  if b8 = true then
  some 0
  else
  if 0 ≤ a1_t ∧ a1_t < (a0_n.g.tiles.length : Int) then
  Option.bind (kind_Price a0_n.cls ((gi a0_n.g.tiles a1_t).toNat : Int)) fun x13 =>
  if 0 ≤ (gi a2_near a3_way) ∧ (gi a2_near a3_way) < (a0_n.g.tiles.length : Int) then
  Option.bind (kind_Price a0_n.cls ((gi a0_n.g.tiles (gi a2_near a3_way)).toNat : Int)) fun x15 =>
  if I64 (x13 + x15) then
  if a3_way < 4 then
  if I64 (5 * (x13 + x15)) then
  some (5 * (x13 + x15))
  else none
  else
  Option.bind (field_sides a3_way) fun x19 =>
  if 0 ≤ x19.1 ∧ x19.1 < (8 : Int) ∧ a2_near.length = 8 then
  if ¬ ((gi a2_near x19.1) < 0) → (0 ≤ x19.2 ∧ x19.2 < (8 : Int) ∧ a2_near.length = 8) then
  if ¬ (((gi a2_near x19.1) < 0) ∨ ((gi a2_near x19.2) < 0)) → (0 ≤ x19.1 ∧ x19.1 < (8 : Int) ∧ a2_near.length = 8) then
  if ¬ (((gi a2_near x19.1) < 0) ∨ ((gi a2_near x19.2) < 0)) → (0 ≤ (gi a2_near x19.1) ∧ (gi a2_near x19.1) < (a0_n.free.length : Int)) then
  if ¬ ((((gi a2_near x19.1) < 0) ∨ ((gi a2_near x19.2) < 0)) ∨ ((!(gi a0_n.free (gi a2_near x19.1))) = true)) → (0 ≤ x19.2 ∧ x19.2 < (8 : Int) ∧ a2_near.length = 8) then
  if ¬ ((((gi a2_near x19.1) < 0) ∨ ((gi a2_near x19.2) < 0)) ∨ ((!(gi a0_n.free (gi a2_near x19.1))) = true)) → (0 ≤ (gi a2_near x19.2) ∧ (gi a2_near x19.2) < (a0_n.free.length : Int)) then
  Option.bind (if ((((gi a2_near x19.1) < 0) ∨ ((gi a2_near x19.2) < 0)) ∨ ((!(gi a0_n.free (gi a2_near x19.1))) = true)) ∨ ((!(gi a0_n.free (gi a2_near x19.2))) = true) then
  some true
  else
  if 0 ≤ x19.1 ∧ x19.1 < (8 : Int) ∧ a2_near.length = 8 then
  Option.bind (a4_in (gi a2_near x19.1)) fun x45 =>
  some (!x45)
  else none) fun b34 =>
  Option.bind (if b34 = true then
  some true
  else
  if 0 ≤ x19.2 ∧ x19.2 < (8 : Int) ∧ a2_near.length = 8 then
  Option.bind (a4_in (gi a2_near x19.2)) fun x42 =>
  some (!x42)
  else none) fun b37 =>
  if b37 = true then
  some 0
  else
  if I64 (7 * (x13 + x15)) then
  some (7 * (x13 + x15))
  else none
  else none
  else none
  else none
  else none
  else none
  else none
  else none
  else none
  else none
  else none
  else none
def field_everywhere (a0_x : Int) : Option Bool :=
  some true
def field_Net_From (a0_n : Net) (a1_goal : Int) (a2_in : Int → Option Bool) : Option (List Int) :=
  Option.bind (slices_Repeat_Int [(-1)] (a0_n.g.tiles.length : Int)) fun x2 =>
  if 0 ≤ a1_goal ∧ a1_goal < (a0_n.free.length : Int) then
  if (!(gi a0_n.free a1_goal)) = true then
  some x2
  else
  if 0 ≤ (x2.length : Int) ∧ (x2.length : Int) ≤ 281474976710656 then
  if 0 ≤ a1_goal ∧ a1_goal < (x2.length : Int) then
  Option.bind (queue_New) fun o14 =>
  Option.bind o14 fun z16 =>
  Option.bind (queue_Queue_Push z16 0 a1_goal) fun x17 =>
  Option.bind (queue_Queue_Pop x17) fun x18 =>
  Option.bind (α := Que × List Int) (loop (σ := Int × Int × Bool × List Int × List Bool × Que) (β := Que × List Int) (fun (v22, v23, v24, l25, l26, v27) =>
  if v24 = true then
  if 0 ≤ v23 ∧ v23 < ((x2.length : Int).toNat : Int) then
  if (gi l26 v23) = true then
  Option.bind (queue_Queue_Pop v27) fun x33 =>
  some (St.next (x33.1, x33.2.1, x33.2.2.1, l25, l26, x33.2.2.2))
  else
  if 0 ≤ v23 ∧ v23 < ((x2.length : Int).toNat : Int) then
  Option.bind (ground_Beside a0_n.g v23) fun x36 =>
  if (List.replicate 8 0).length = 8 ∧ x36.length = 8 then
  if x36.length = 8 then
  Option.bind (α := Que × List Int) (loop (σ := Int × List Int × Que) (β := Que × List Int) (fun (v44, l45, v46) =>
  if v44 < 8 then
  if 0 ≤ v44 ∧ v44 < (8 : Int) ∧ x36.length = 8 then
  if x36.length = 8 then
  Option.bind (field_Net_Step a0_n v23 x36 v44 a2_in) fun x51 =>
  if (0 < x51) → (0 ≤ (gi x36 v44) ∧ (gi x36 v44) < ((x2.length : Int).toNat : Int)) then
  if ((0 < x51) ∧ ((!(gi (si l26 v23 true) (gi x36 v44))) = true)) → (0 ≤ (gi x36 v44) ∧ (gi x36 v44) < (x2.length : Int)) then
  if ((0 < x51) ∧ ((!(gi (si l26 v23 true) (gi x36 v44))) = true)) → (¬ ((gi l45 (gi x36 v44)) < 0) → (I64 (v22 + x51))) then
  if ((0 < x51) ∧ ((!(gi (si l26 v23 true) (gi x36 v44))) = true)) → (¬ ((gi l45 (gi x36 v44)) < 0) → (0 ≤ (gi x36 v44) ∧ (gi x36 v44) < (x2.length : Int))) then
  if ((0 < x51) ∧ ((!(gi (si l26 v23 true) (gi x36 v44))) = true)) ∧ (((gi l45 (gi x36 v44)) < 0) ∨ ((v22 + x51) < (gi l45 (gi x36 v44)))) then
  if I64 (v22 + x51) then
  if 0 ≤ (gi x36 v44) ∧ (gi x36 v44) < (x2.length : Int) then
  if I64 (v22 + x51) then
  Option.bind (queue_Queue_Push v46 (v22 + x51) (gi x36 v44)) fun x65 =>
  if I64 (v44 + 1) then
  some (St.next ((v44 + 1), (si l45 (gi x36 v44) (v22 + x51)), x65))
  else none
  else none
  else none
  else none
  else
  if I64 (v44 + 1) then
  some (St.next ((v44 + 1), l45, v46))
  else none
  else none
  else none
  else none
  else none
  else none
  else none
  else
  some (St.done (v46, l45))) (0, l25, v27)) fun (v41, v42) =>
  Option.bind (queue_Queue_Pop v41) fun x43 =>
  some (St.next (x43.1, x43.2.1, x43.2.2.1, v42, (si l26 v23 true), x43.2.2.2))
  else none
  else none
  else none
  else none
  else
  some (St.done (v27, l25))) (x18.1, x18.2.1, x18.2.2.1, (si x2 a1_goal 0), (List.replicate (x2.length : Int).toNat false), x18.2.2.2)) fun (v20, v21) =>
  some v21
  else none
  else none
  else none
def field_Open (a0_g : Grd) (a1_l : List Bld) (a2_class : Int) (a3_size : Int) : Option Net :=
  Option.bind (field_Fit a0_g a1_l a2_class a3_size) fun x2 =>
  some (⟨a0_g, a2_class, x2⟩ : Net)
def field_ask (a0_g : Grd) (a1_l : List Bld) (a2_class : Int) (a3_size : Int) (a4_goal : Int) : Option Int :=
  Option.bind (field_May a0_g a1_l a2_class a3_size) fun x2 =>
  if (!x2) = true then
  some 1
  else
  Option.bind (ground_Is a0_g a4_goal) fun x4 =>
  if (!x4) = true then
  some 3
  else
  some 0
def field_Make (a0_g : Grd) (a1_l : List Bld) (a2_class : Int) (a3_size : Int) (a4_goal : Int) : Option (List Int × Int) :=
  Option.bind (field_ask a0_g a1_l a2_class a3_size a4_goal) fun x2 =>
  if ¬ x2 = 0 then
  some ([], x2)
  else
  Option.bind (field_Open a0_g a1_l a2_class a3_size) fun x4 =>
  Option.bind (field_Net_From (⟨(⟨x4.g.w, x4.g.h, a0_g.tiles⟩ : Grd), x4.cls, x4.free⟩ : Net) a4_goal (fun y0 => field_everywhere y0)) fun x7 =>
  some (x7, 0)
def throngref10_Across (a0_w : Int) : Option Int :=
  if I64 (a0_w + 8) then
  if I64 ((a0_w + 8) - 1) then
  if 0 ≤ ((a0_w + 8) - 1) ∧ ((a0_w + 8) - 1) ≤ 9223372036854775807 then
  some (((a0_w + 8) - 1) / 8)
  else none
  else none
  else none
def throngref10_Of (a0_w : Int) (a1_t : Int) : Option Int :=
  if 0 ≤ a1_t ∧ a1_t ≤ 9223372036854775807 ∧ (1 : Int) ≤ a0_w then
  if 0 ≤ (a1_t % a0_w) ∧ (a1_t % a0_w) ≤ 9223372036854775807 then
  Option.bind (throngref10_Across a0_w) fun x3 =>
  if 0 ≤ a1_t ∧ a1_t ≤ 9223372036854775807 ∧ (1 : Int) ≤ a0_w then
  if 0 ≤ (a1_t / a0_w) ∧ (a1_t / a0_w) ≤ 9223372036854775807 then
  if I64 (x3 * ((a1_t / a0_w) / 8)) then
  if I64 (((a1_t % a0_w) / 8) + (x3 * ((a1_t / a0_w) / 8))) then
  some (((a1_t % a0_w) / 8) + (x3 * ((a1_t / a0_w) / 8)))
  else none
  else none
  else none
  else none
  else none
  else none
def throngref13_May (a0_g : Grd) (a1_l : List Bld) (a2_class : Int) (a3_size : Int) : Option Bool :=
  Option.bind (throngref8_May a0_g a1_l) fun x2 =>
  Option.bind (if x2 = true then
  Option.bind (throngref5_Class a2_class) fun x12 =>
  some x12
  else
  some false) fun b5 =>
  Option.bind (if b5 = true then
  Option.bind (throngref0_Num a3_size 3) fun x10 =>
  some x10
  else
  some false) fun b8 =>
  some b8
def thronglaw13_Heavy (a0_p : Ask13) : Option Bool :=
  Option.bind (thronglaw0_Great a0_p.g a0_p.l) fun x2 =>
  some (decide ((x2 = true) ∨ (30 < (a0_p.ts.length : Int))))
def sector_across (a0_n : Int) : Option Int :=
  if I64 (a0_n + 8) then
  if I64 ((a0_n + 8) - 1) then
  if 0 ≤ ((a0_n + 8) - 1) ∧ ((a0_n + 8) - 1) ≤ 9223372036854775807 then
  some (((a0_n + 8) - 1) / 8)
  else none
  else none
  else none
def sector_May (a0_w : Int) (a1_h : Int) : Option Bool :=
  Option.bind (ground_Side a0_w) fun x1 =>
  Option.bind (if x1 = true then
  Option.bind (ground_Side a1_h) fun x6 =>
  some x6
  else
  some false) fun b4 =>
  some b4
end Go.Proofs.YthdbofgcckjopaaGreat
