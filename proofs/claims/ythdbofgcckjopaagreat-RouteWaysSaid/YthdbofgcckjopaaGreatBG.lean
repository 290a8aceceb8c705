/-
  The statements of the buildings and all that they call, as pure functions.
-/
import Derived.Test.YthdbofgcckjopaaGreatRows
import Derived.Test.YthdbofgcckjopaaGreatBO
import Derived.Test.YthdbofgcckjopaaGreatZC
import Derived.Test.YthdbofgcckjopaaGreatW3
import Derived.Test.YthdbofgcckjopaaGreatW2
set_option linter.unusedVariables false
set_option linter.unusedSimpArgs false
set_option maxRecDepth 20000
set_option maxHeartbeats 4000000
namespace Go.Proofs.YthdbofgcckjopaaGreat
open Go.Vg
open Enc (R)
def throngref0_EqNumbers (a0_a : List Int) (a1_b : List Int) : Option Bool :=
  if ¬ (a0_a.length : Int) = (a1_b.length : Int) then
  some false
  else
  Option.bind (α := Ex (Unit) (Bool)) (loop (σ := Int) (β := Ex (Unit) (Bool)) (fun v3 =>
  if v3 < (a0_a.length : Int) then
  if 0 ≤ v3 ∧ v3 < (a0_a.length : Int) then
  if 0 ≤ v3 ∧ v3 < (a1_b.length : Int) then
  if ¬ (gi a0_a v3) = (gi a1_b v3) then
  some (St.done (Ex.up false))
  else
  if I64 (v3 + 1) then
  some (St.next (v3 + 1))
  else none
  else none
  else none
  else
  some (St.done (Ex.go ()))) 0) fun x => x.then fun _ =>
  some true
def throngref0_Num (a0_n : Int) (a1_most : Int) : Option Bool :=
  some (decide ((0 ≤ a0_n) ∧ (a0_n ≤ a1_most)))
def thronglaw0_Great (a0_g : Grd) (a1_l : List Bld) : Option Bool :=
  some (decide ((700 < (a0_g.tiles.length : Int)) ∨ (30 < (a1_l.length : Int))))
def cmp_isNaN (a0_x : Int) : Option Bool :=
  some (decide (¬ a0_x = a0_x))
def cmp_Compare (a0_x : Int) (a1_y : Int) : Option Int :=
  Option.bind (cmp_isNaN a0_x) fun x1 =>
  Option.bind (cmp_isNaN a1_y) fun x2 =>
  if x1 = true then
  if x2 = true then
  some 0
  else
  some (-1)
  else
  if x2 = true then
  some 1
  else
  if a0_x < a1_y then
  some (-1)
  else
  if a1_y < a0_x then
  some 1
  else
  some 0
def slices_Max (a0_x : List UInt8) : Option Int :=
  Option.bind (α := Unit) (if (a0_x.length : Int) < 1 then
  none
  else
  some ()) fun _ =>
  if 0 ≤ (0 : Int) ∧ (0 : Int) < (a0_x.length : Int) then
  Option.bind (α := Int) (loop (σ := Int × Int) (β := Int) (fun (v7, v8) =>
  if v8 < (a0_x.length : Int) then
  if 0 ≤ v8 ∧ v8 < (a0_x.length : Int) then
  if I64 (v8 + 1) then
  some (St.next ((max v7 ((gi a0_x v8).toNat : Int)), (v8 + 1)))
  else none
  else none
  else
  some (St.done v7)) (((gi a0_x (0 : Int)).toNat : Int), 1)) fun v6 =>
  some v6
  else none
def slices_IndexFunc (a0_s : List Int) (a1_f : Int → Option Bool) : Option Int :=
  Option.bind (α := Ex (Unit) (Int)) (loop (σ := Int) (β := Ex (Unit) (Int)) (fun v2 =>
  if v2 < (a0_s.length : Int) then
  if 0 ≤ v2 ∧ v2 < (a0_s.length : Int) then
  Option.bind (a1_f (gi a0_s v2)) fun x8 =>
  if x8 = true then
  some (St.done (Ex.up v2))
  else
  if I64 (v2 + 1) then
  some (St.next (v2 + 1))
  else none
  else none
  else
  some (St.done (Ex.go ()))) 0) fun x => x.then fun _ =>
  some (-1)
def slices_ContainsFunc (a0_s : List Int) (a1_f : Int → Option Bool) : Option Bool :=
  Option.bind (slices_IndexFunc a0_s a1_f) fun x1 =>
  some (decide (0 ≤ x1))
def ground_Side (a0_n : Int) : Option Bool :=
  some (decide ((1 ≤ a0_n) ∧ (a0_n ≤ 128)))
def ground_May (a0_g : Grd) : Option Bool :=
  Option.bind (ground_Side a0_g.w) fun x2 =>
  Option.bind (if (!x2) = true then
  some true
  else
  Option.bind (ground_Side a0_g.h) fun x12 =>
  some (!x12)) fun b5 =>
  if ¬ (b5 = true) → (I64 (a0_g.w * a0_g.h)) then
  if (b5 = true) ∨ (¬ (a0_g.tiles.length : Int) = (a0_g.w * a0_g.h)) then
  some false
  else
  Option.bind (slices_Max a0_g.tiles) fun x10 =>
  some (decide (x10 ≤ 5))
  else none
def ground_Is (a0_g : Grd) (a1_t : Int) : Option Bool :=
  if (0 ≤ a1_t) → (I64 (a0_g.w * a0_g.h)) then
  some (decide ((0 ≤ a1_t) ∧ (a1_t < (a0_g.w * a0_g.h))))
  else none
def ground_On (a0_g : Grd) (a1_x : Int) (a2_y : Int) : Option Bool :=
  some (decide ((((0 ≤ a1_x) ∧ (a1_x < a0_g.w)) ∧ (0 ≤ a2_y)) ∧ (a2_y < a0_g.h)))
def build_form (a0_b : Bld) : Option Bool :=
  some (decide ((((((((1 ≤ a0_b.id) ∧ (a0_b.id ≤ 1099511627776)) ∧ (1 ≤ a0_b.owner)) ∧ (a0_b.owner ≤ 8)) ∧ (1 ≤ a0_b.w)) ∧ (a0_b.w ≤ 4)) ∧ (1 ≤ a0_b.h)) ∧ (a0_b.h ≤ 4)))
def build_on (a0_g : Grd) (a1_b : Bld) : Option Bool :=
  if (0 ≤ a1_b.x) → (I64 (a0_g.w - a1_b.w)) then
  if (((0 ≤ a1_b.x) ∧ (a1_b.x ≤ (a0_g.w - a1_b.w))) ∧ (0 ≤ a1_b.y)) → (I64 (a0_g.h - a1_b.h)) then
  some (decide ((((0 ≤ a1_b.x) ∧ (a1_b.x ≤ (a0_g.w - a1_b.w))) ∧ (0 ≤ a1_b.y)) ∧ (a1_b.y ≤ (a0_g.h - a1_b.h))))
  else none
  else none
def build_Tiles (a0_g : Grd) (a1_b : Bld) : Option (List Int) :=
  Option.bind (α := List Int) (loop (σ := List Int × Int) (β := List Int) (fun (l6, v8) =>
  if v8 < a1_b.h then
  Option.bind (α := List Int) (loop (σ := Int × List Int) (β := List Int) (fun (v15, l16) =>
  if v15 < a1_b.w then
  if I64 (a1_b.x + v15) then
  if I64 (a1_b.y + v8) then
  if I64 (a0_g.w * (a1_b.y + v8)) then
  if I64 ((a1_b.x + v15) + (a0_g.w * (a1_b.y + v8))) then
  if l16.length < 1099511627776 then
  if I64 (v15 + 1) then
  some (St.next ((v15 + 1), (l16 ++ [((a1_b.x + v15) + (a0_g.w * (a1_b.y + v8)))])))
  else none
  else none
  else none
  else none
  else none
  else none
  else
  some (St.done l16)) (0, l6)) fun v12 =>
  if I64 (v8 + 1) then
  some (St.next (v12, (v8 + 1)))
  else none
  else
  some (St.done l6)) ([], 0)) fun v4 =>
  some v4
def build_firm_1 (a0_t : Int) (c0 : Grd) : Option Bool :=
  if 0 ≤ a0_t ∧ a0_t < (c0.tiles.length : Int) then
  some (decide (1 < ((gi c0.tiles a0_t).toNat : Int)))
  else none
def build_firm (a0_g : Grd) (a1_b : Bld) : Option Bool :=
  Option.bind (build_Tiles a0_g a1_b) fun x3 =>
  Option.bind (slices_ContainsFunc x3 (fun y0 => build_firm_1 y0 a0_g)) fun x5 =>
  some (!x5)
def build_rising (a0_l : List Bld) : Option Bool :=
  Option.bind (α := Ex (Unit) (Bool)) (loop (σ := Int) (β := Ex (Unit) (Bool)) (fun v2 =>
  if v2 < (a0_l.length : Int) then
  if I64 (v2 - 1) then
  if 0 ≤ (v2 - 1) ∧ (v2 - 1) < (a0_l.length : Int) then
  if 0 ≤ v2 ∧ v2 < (a0_l.length : Int) then
  if (gi a0_l v2).id ≤ (gi a0_l (v2 - 1)).id then
  some (St.done (Ex.up false))
  else
  if I64 (v2 + 1) then
  some (St.next (v2 + 1))
  else none
  else none
  else none
  else none
  else
  some (St.done (Ex.go ()))) 1) fun x => x.then fun _ =>
  some true
def build_May (a0_g : Grd) (a1_l : List Bld) : Option Bool :=
  Option.bind (if 256 < (a1_l.length : Int) then
  some true
  else
  Option.bind (build_rising a1_l) fun x48 =>
  some (!x48)) fun b4 =>
  if b4 = true then
  some false
  else
  if 0 ≤ (a0_g.tiles.length : Int) ∧ (a0_g.tiles.length : Int) ≤ 281474976710656 then
  Option.bind (α := Ex (Unit) (Bool)) (loop (σ := Int × List Bool) (β := Ex (Unit) (Bool)) (fun (v9, l10) =>
  if v9 < (a1_l.length : Int) then
  if 0 ≤ v9 ∧ v9 < (a1_l.length : Int) then
  Option.bind (build_form (gi a1_l v9)) fun x17 =>
  Option.bind (if (!x17) = true then
  some true
  else
  Option.bind (build_on a0_g (gi a1_l v9)) fun x46 =>
  some (!x46)) fun b20 =>
  Option.bind (if b20 = true then
  some true
  else
  Option.bind (build_firm a0_g (gi a1_l v9)) fun x44 =>
  some (!x44)) fun b23 =>
  if b23 = true then
  some (St.done (Ex.up false))
  else
  Option.bind (build_Tiles a0_g (gi a1_l v9)) fun x25 =>
  Option.bind (α := Ex (List Bool) (St (Int × List Bool) (Ex (Unit) (Bool)))) (loop (σ := Int × List Bool) (β := Ex (List Bool) (St (Int × List Bool) (Ex (Unit) (Bool)))) (fun (v30, l31) =>
  if v30 < (x25.length : Int) then
  if 0 ≤ v30 ∧ v30 < (x25.length : Int) then
  if 0 ≤ (gi x25 v30) ∧ (gi x25 v30) < ((a0_g.tiles.length : Int).toNat : Int) then
  if (gi l31 (gi x25 v30)) = true then
  some (St.done (Ex.up (St.done (Ex.up false))))
  else
  if 0 ≤ (gi x25 v30) ∧ (gi x25 v30) < ((a0_g.tiles.length : Int).toNat : Int) then
  if I64 (v30 + 1) then
  some (St.next ((v30 + 1), (si l31 (gi x25 v30) true)))
  else none
  else none
  else none
  else none
  else
  some (St.done (Ex.go l31))) (0, l10)) fun x => x.then fun v28 =>
  if I64 (v9 + 1) then
  some (St.next ((v9 + 1), v28))
  else none
  else none
  else
  some (St.done (Ex.go ()))) (0, (List.replicate (a0_g.tiles.length : Int).toNat false))) fun x => x.then fun _ =>
  some true
  else none
def build_Cover (a0_g : Grd) (a1_l : List Bld) : Option (List Bool) :=
  if 0 ≤ (a0_g.tiles.length : Int) ∧ (a0_g.tiles.length : Int) ≤ 281474976710656 then
  Option.bind (α := List Bool) (loop (σ := Int × List Bool) (β := List Bool) (fun (v6, l7) =>
  if v6 < (a1_l.length : Int) then
  if 0 ≤ v6 ∧ v6 < (a1_l.length : Int) then
  Option.bind (build_Tiles a0_g (gi a1_l v6)) fun x14 =>
  Option.bind (α := List Bool) (loop (σ := Int × List Bool) (β := List Bool) (fun (v19, l20) =>
  if v19 < (x14.length : Int) then
  if 0 ≤ v19 ∧ v19 < (x14.length : Int) then
  if 0 ≤ (gi x14 v19) ∧ (gi x14 v19) < ((a0_g.tiles.length : Int).toNat : Int) then
  if I64 (v19 + 1) then
  some (St.next ((v19 + 1), (si l20 (gi x14 v19) true)))
  else none
  else none
  else none
  else
  some (St.done l20)) (0, l7)) fun v17 =>
  if I64 (v6 + 1) then
  some (St.next ((v6 + 1), v17))
  else none
  else none
  else
  some (St.done l7)) (0, (List.replicate (a0_g.tiles.length : Int).toNat false))) fun v5 =>
  some v5
  else none
def throngref5_Ground (a0_g : Grd) : Option Bool :=
  if ¬ ((((a0_g.w < 1) ∨ (128 < a0_g.w)) ∨ (a0_g.h < 1)) ∨ (128 < a0_g.h)) → (I64 (a0_g.w * a0_g.h)) then
  if ((((a0_g.w < 1) ∨ (128 < a0_g.w)) ∨ (a0_g.h < 1)) ∨ (128 < a0_g.h)) ∨ (¬ (a0_g.tiles.length : Int) = (a0_g.w * a0_g.h)) then
  some false
  else
  Option.bind (α := Ex (Unit) (Bool)) (loop (σ := Int) (β := Ex (Unit) (Bool)) (fun v13 =>
  if v13 < (a0_g.tiles.length : Int) then
  if 0 ≤ v13 ∧ v13 < (a0_g.tiles.length : Int) then
  if 5 < ((gi a0_g.tiles v13).toNat : Int) then
  some (St.done (Ex.up false))
  else
  if I64 (v13 + 1) then
  some (St.next (v13 + 1))
  else none
  else none
  else
  some (St.done (Ex.go ()))) 0) fun x => x.then fun _ =>
  some true
  else none
def throngref5_Tile (a0_g : Grd) (a1_t : Int) : Option Bool :=
  if (0 ≤ a1_t) → (I64 (a0_g.w * a0_g.h)) then
  some (decide ((0 ≤ a1_t) ∧ (a1_t < (a0_g.w * a0_g.h))))
  else none
def throngref8_Sides (a0_b : Bld) : Option Bool :=
  some (decide ((((((((1 ≤ a0_b.id) ∧ (a0_b.id ≤ 1099511627776)) ∧ (1 ≤ a0_b.owner)) ∧ (a0_b.owner ≤ 8)) ∧ (1 ≤ a0_b.w)) ∧ (a0_b.w ≤ 4)) ∧ (1 ≤ a0_b.h)) ∧ (a0_b.h ≤ 4)))
def throngref8_on (a0_g : Grd) (a1_b : Bld) : Option Bool :=
  if ((((0 ≤ a1_b.x) ∧ (0 ≤ a1_b.y)) ∧ (a1_b.x < a0_g.w)) ∧ (a1_b.y < a0_g.h)) → (I64 (a0_g.w - a1_b.x)) then
  if (((((0 ≤ a1_b.x) ∧ (0 ≤ a1_b.y)) ∧ (a1_b.x < a0_g.w)) ∧ (a1_b.y < a0_g.h)) ∧ (a1_b.w ≤ (a0_g.w - a1_b.x))) → (I64 (a0_g.h - a1_b.y)) then
  some (decide ((((((0 ≤ a1_b.x) ∧ (0 ≤ a1_b.y)) ∧ (a1_b.x < a0_g.w)) ∧ (a1_b.y < a0_g.h)) ∧ (a1_b.w ≤ (a0_g.w - a1_b.x))) ∧ (a1_b.h ≤ (a0_g.h - a1_b.y))))
  else none
  else none
def throngref8_Has (a0_g : Grd) (a1_b : Bld) (a2_t : Int) : Option Bool :=
  if 0 ≤ a2_t ∧ a2_t ≤ 9223372036854775807 ∧ (1 : Int) ≤ a0_g.w then
  if 0 ≤ a2_t ∧ a2_t ≤ 9223372036854775807 ∧ (1 : Int) ≤ a0_g.w then
  if (a1_b.x ≤ (a2_t % a0_g.w)) → (I64 (a1_b.x + a1_b.w)) then
  if (((a1_b.x ≤ (a2_t % a0_g.w)) ∧ ((a2_t % a0_g.w) < (a1_b.x + a1_b.w))) ∧ (a1_b.y ≤ (a2_t / a0_g.w))) → (I64 (a1_b.y + a1_b.h)) then
  some (decide ((((a1_b.x ≤ (a2_t % a0_g.w)) ∧ ((a2_t % a0_g.w) < (a1_b.x + a1_b.w))) ∧ (a1_b.y ≤ (a2_t / a0_g.w))) ∧ ((a2_t / a0_g.w) < (a1_b.y + a1_b.h))))
  else none
  else none
  else none
  else none
def throngref8_firm (a0_g : Grd) (a1_b : Bld) : Option Bool :=
  Option.bind (α := Ex (Unit) (Bool)) (loop (σ := Int) (β := Ex (Unit) (Bool)) (fun v4 =>
  if I64 (a0_g.w * a0_g.h) then
  if v4 < (a0_g.w * a0_g.h) then
  Option.bind (throngref8_Has a0_g a1_b v4) fun x8 =>
  if (x8 = true) → (0 ≤ v4 ∧ v4 < (a0_g.tiles.length : Int)) then
  if ((x8 = true) ∧ (¬ ((gi a0_g.tiles v4).toNat : Int) = 0)) → (0 ≤ v4 ∧ v4 < (a0_g.tiles.length : Int)) then
  if ((x8 = true) ∧ (¬ ((gi a0_g.tiles v4).toNat : Int) = 0)) ∧ (¬ ((gi a0_g.tiles v4).toNat : Int) = 1) then
  some (St.done (Ex.up false))
  else
  if I64 (v4 + 1) then
  some (St.next (v4 + 1))
  else none
  else none
  else none
  else
  some (St.done (Ex.go ()))
  else none) 0) fun x => x.then fun _ =>
  some true
def throngref8_meet (a0_a : Bld) (a1_b : Bld) : Option Bool :=
  if I64 (a1_b.x + a1_b.w) then
  if (a0_a.x < (a1_b.x + a1_b.w)) → (I64 (a0_a.x + a0_a.w)) then
  if ((a0_a.x < (a1_b.x + a1_b.w)) ∧ (a1_b.x < (a0_a.x + a0_a.w))) → (I64 (a1_b.y + a1_b.h)) then
  if (((a0_a.x < (a1_b.x + a1_b.w)) ∧ (a1_b.x < (a0_a.x + a0_a.w))) ∧ (a0_a.y < (a1_b.y + a1_b.h))) → (I64 (a0_a.y + a0_a.h)) then
  some (decide ((((a0_a.x < (a1_b.x + a1_b.w)) ∧ (a1_b.x < (a0_a.x + a0_a.w))) ∧ (a0_a.y < (a1_b.y + a1_b.h))) ∧ (a1_b.y < (a0_a.y + a0_a.h))))
  else none
  else none
  else none
  else none
def throngref8_IDs (a0_l : List Bld) : Option Bool :=
  Option.bind (α := Ex (Unit) (Bool)) (loop (σ := Int) (β := Ex (Unit) (Bool)) (fun v2 =>
  if v2 < (a0_l.length : Int) then
  if 0 ≤ v2 ∧ v2 < (a0_l.length : Int) then
  if I64 (v2 - 1) then
  if 0 ≤ (v2 - 1) ∧ (v2 - 1) < (a0_l.length : Int) then
  if (gi a0_l v2).id ≤ (gi a0_l (v2 - 1)).id then
  some (St.done (Ex.up false))
  else
  if I64 (v2 + 1) then
  some (St.next (v2 + 1))
  else none
  else none
  else none
  else none
  else
  some (St.done (Ex.go ()))) 1) fun x => x.then fun _ =>
  some true
def throngref8_May (a0_g : Grd) (a1_l : List Bld) : Option Bool :=
  Option.bind (throngref5_Ground a0_g) fun x2 =>
  Option.bind (if ((!x2) = true) ∨ (256 < (a1_l.length : Int)) then
  some true
  else
  Option.bind (throngref8_IDs a1_l) fun x41 =>
  some (!x41)) fun b7 =>
  if b7 = true then
  some false
  else
  Option.bind (α := Ex (Unit) (Bool)) (loop (σ := Int) (β := Ex (Unit) (Bool)) (fun v10 =>
  if v10 < (a1_l.length : Int) then
  if 0 ≤ v10 ∧ v10 < (a1_l.length : Int) then
  Option.bind (throngref8_Sides (gi a1_l v10)) fun x16 =>
  Option.bind (if (!x16) = true then
  some true
  else
  if 0 ≤ v10 ∧ v10 < (a1_l.length : Int) then
  Option.bind (throngref8_on a0_g (gi a1_l v10)) fun x39 =>
  some (!x39)
  else none) fun b19 =>
  Option.bind (if b19 = true then
  some true
  else
  if 0 ≤ v10 ∧ v10 < (a1_l.length : Int) then
  Option.bind (throngref8_firm a0_g (gi a1_l v10)) fun x36 =>
  some (!x36)
  else none) fun b22 =>
  if b22 = true then
  some (St.done (Ex.up false))
  else
  Option.bind (α := Ex (Unit) (St (Int) (Ex (Unit) (Bool)))) (loop (σ := Int) (β := Ex (Unit) (St (Int) (Ex (Unit) (Bool)))) (fun v26 =>
  if v26 < v10 then
  if 0 ≤ v10 ∧ v10 < (a1_l.length : Int) then
  if 0 ≤ v26 ∧ v26 < (a1_l.length : Int) then
  Option.bind (throngref8_meet (gi a1_l v10) (gi a1_l v26)) fun x31 =>
  if x31 = true then
  some (St.done (Ex.up (St.done (Ex.up false))))
  else
  if I64 (v26 + 1) then
  some (St.next (v26 + 1))
  else none
  else none
  else none
  else
  some (St.done (Ex.go ()))) 0) fun x => x.then fun _ =>
  if I64 (v10 + 1) then
  some (St.next (v10 + 1))
  else none
  else none
  else
  some (St.done (Ex.go ()))) 0) fun x => x.then fun _ =>
  some true
end Go.Proofs.YthdbofgcckjopaaGreat
