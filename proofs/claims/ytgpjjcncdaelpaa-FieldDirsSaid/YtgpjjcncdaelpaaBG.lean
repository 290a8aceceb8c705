/-
  The statements of the buildings and all that they call, as pure functions.
-/
import Derived.Test.YtgpjjcncdaelpaaRows
import Derived.Test.YtgpjjcncdaelpaaBI
import Derived.Test.YtgpjjcncdaelpaaBO
import Derived.Test.YtgpjjcncdaelpaaZC
import Derived.Test.YtgpjjcncdaelpaaVP
import Derived.Test.YtgpjjcncdaelpaaVR
set_option linter.unusedVariables false
set_option linter.unusedSimpArgs false
set_option maxRecDepth 20000
set_option maxHeartbeats 1000000
namespace Go.Proofs.Ytgpjjcncdaelpaa
open Go.Vg
open Enc (R)
def throngref0_EqNumbers (a0_a : List Int) (a1_b : List Int) : Option Bool :=
  if ¬ (a0_a.length : Int) = (a1_b.length : Int) then
  some false
  else
  Option.bind (α := Ex (Unit) (Bool)) (loop (σ := Int) (β := Ex (Unit) (Bool)) (fun v3 =>
  if v3 < (a0_a.length : Int) then
  if 0 ≤ v3 ∧ v3 < (a0_a.length : Int) then
  if 0 ≤ v3 ∧ v3 < (a1_b.length : Int) then
  if ¬ (gi a0_a v3) = (gi a1_b v3) then
  some (St.done (Ex.up false))
  else
  if I64 (v3 + 1) then
  some (St.next (v3 + 1))
  else none
  else none
  else none
  else
  some (St.done (Ex.go ()))) 0) fun x => x.then fun _ =>
  some true
def throngref0_EqBools (a0_a : List Bool) (a1_b : List Bool) : Option Bool :=
  if ¬ (a0_a.length : Int) = (a1_b.length : Int) then
  some false
  else
  Option.bind (α := Ex (Unit) (Bool)) (loop (σ := Int) (β := Ex (Unit) (Bool)) (fun v3 =>
  if v3 < (a0_a.length : Int) then
  if 0 ≤ v3 ∧ v3 < (a0_a.length : Int) then
  if 0 ≤ v3 ∧ v3 < (a1_b.length : Int) then
  if ¬ (gi a0_a v3) = (gi a1_b v3) then
  some (St.done (Ex.up false))
  else
  if I64 (v3 + 1) then
  some (St.next (v3 + 1))
  else none
  else none
  else none
  else
  some (St.done (Ex.go ()))) 0) fun x => x.then fun _ =>
  some true
def throngref0_EqBytes (a0_a : List UInt8) (a1_b : List UInt8) : Option Bool :=
  if ¬ (a0_a.length : Int) = (a1_b.length : Int) then
  some false
  else
  Option.bind (α := Ex (Unit) (Bool)) (loop (σ := Int) (β := Ex (Unit) (Bool)) (fun v3 =>
  if v3 < (a0_a.length : Int) then
  if 0 ≤ v3 ∧ v3 < (a0_a.length : Int) then
  if 0 ≤ v3 ∧ v3 < (a1_b.length : Int) then
  if ¬ ((gi a0_a v3).toNat : Int) = ((gi a1_b v3).toNat : Int) then
  some (St.done (Ex.up false))
  else
  if I64 (v3 + 1) then
  some (St.next (v3 + 1))
  else none
  else none
  else none
  else
  some (St.done (Ex.go ()))) 0) fun x => x.then fun _ =>
  some true
def throngref0_CopyBytes (a0_l : List UInt8) : Option (List UInt8) :=
  Option.bind (α := List UInt8) (loop (σ := List UInt8 × Int) (β := List UInt8) (fun (l4, v6) =>
  if v6 < (a0_l.length : Int) then
  if 0 ≤ v6 ∧ v6 < (a0_l.length : Int) then
  if l4.length < 1099511627776 then
  if I64 (v6 + 1) then
  some (St.next ((l4 ++ [(gi a0_l v6)]), (v6 + 1)))
  else none
  else none
  else none
  else
  some (St.done l4)) ([], 0)) fun v2 =>
  some v2
def throngref0_CopyBuildings (a0_l : List Bld) : Option (List Bld) :=
  Option.bind (α := List Bld) (loop (σ := List Bld × Int) (β := List Bld) (fun (l4, v6) =>
  if v6 < (a0_l.length : Int) then
  if 0 ≤ v6 ∧ v6 < (a0_l.length : Int) then
  if l4.length < 1099511627776 then
  if I64 (v6 + 1) then
  some (St.next ((l4 ++ [(gi a0_l v6)]), (v6 + 1)))
  else none
  else none
  else none
  else
  some (St.done l4)) ([], 0)) fun v2 =>
  some v2
def throngref0_EqBuildings (a0_a : List Bld) (a1_b : List Bld) : Option Bool :=
  if ¬ (a0_a.length : Int) = (a1_b.length : Int) then
  some false
  else
  Option.bind (α := Ex (Unit) (Bool)) (loop (σ := Int) (β := Ex (Unit) (Bool)) (fun v3 =>
  if v3 < (a0_a.length : Int) then
  if 0 ≤ v3 ∧ v3 < (a0_a.length : Int) then
  if 0 ≤ v3 ∧ v3 < (a1_b.length : Int) then
  if ¬ (gi a0_a v3) = (gi a1_b v3) then
  some (St.done (Ex.up false))
  else
  if I64 (v3 + 1) then
  some (St.next (v3 + 1))
  else none
  else none
  else none
  else
  some (St.done (Ex.go ()))) 0) fun x => x.then fun _ =>
  some true
def throngref0_CopyGround (a0_a : Grd) : Option Grd :=
  Option.bind (throngref0_CopyBytes a0_a.tiles) fun x4 =>
  some (⟨a0_a.w, a0_a.h, x4⟩ : Grd)
def throngref0_EqGround (a0_a : Grd) (a1_b : Grd) : Option Bool :=
  Option.bind (if (a0_a.w = a1_b.w) ∧ (a0_a.h = a1_b.h) then
  Option.bind (throngref0_EqBytes a0_a.tiles a1_b.tiles) fun x9 =>
  some x9
  else
  some false) fun b7 =>
  some b7
def throngref0_Num (a0_n : Int) (a1_most : Int) : Option Bool :=
  some (decide ((0 ≤ a0_n) ∧ (a0_n ≤ a1_most)))
def thronglaw0_Numbers (a0_l : List Int) : Option Unit :=
  Option.bind (α := List Int) (loop (σ := Int × List Int) (β := List Int) (fun (v6, l7) =>
  if v6 < (a0_l.length : Int) then
  if 0 ≤ v6 ∧ v6 < (a0_l.length : Int) then
  if I64 (v6 + 1) then
  some (St.next ((v6 + 1), (si l7 v6 (-99))))
  else none
  else none
  else
  some (St.done l7)) (0, a0_l)) fun v2 =>
  if v2.length < 1099511627776 then
  some ()
  else none
def thronglaw0_Bools (a0_l : List Bool) : Option Unit :=
  Option.bind (α := List Bool) (loop (σ := Int × List Bool) (β := List Bool) (fun (v6, l7) =>
  if v6 < (a0_l.length : Int) then
  if 0 ≤ v6 ∧ v6 < (a0_l.length : Int) then
  if 0 ≤ v6 ∧ v6 < (a0_l.length : Int) then
  if I64 (v6 + 1) then
  some (St.next ((v6 + 1), (si l7 v6 (!(gi l7 v6)))))
  else none
  else none
  else none
  else
  some (St.done l7)) (0, a0_l)) fun v2 =>
  if v2.length < 1099511627776 then
  some ()
  else none
def thronglaw0_Buildings (a0_l : List Bld) : Option Unit :=
  Option.bind (α := List Bld) (loop (σ := Int × List Bld) (β := List Bld) (fun (v6, l7) =>
  if v6 < (a0_l.length : Int) then
  if 0 ≤ v6 ∧ v6 < (a0_l.length : Int) then
  if I64 (v6 + 1) then
  some (St.next ((v6 + 1), (si l7 v6 (⟨(-9), 0, 0, 0, 0, 0⟩ : Bld))))
  else none
  else none
  else
  some (St.done l7)) (0, a0_l)) fun v2 =>
  if v2.length < 1099511627776 then
  some ()
  else none
def thronglaw0_Great (a0_g : Grd) (a1_l : List Bld) : Option Bool :=
  some (decide ((700 < (a0_g.tiles.length : Int)) ∨ (30 < (a1_l.length : Int))))
def cmp_isNaN (a0_x : Int) : Option Bool :=
  some (decide (¬ a0_x = a0_x))
def cmp_Compare (a0_x : Int) (a1_y : Int) : Option Int :=
  Option.bind (cmp_isNaN a0_x) fun x1 =>
  Option.bind (cmp_isNaN a1_y) fun x2 =>
  if x1 = true then
  if x2 = true then
  some 0
  else
  some (-1)
  else
  if x2 = true then
  some 1
  else
  if a0_x < a1_y then
  some (-1)
  else
  if a1_y < a0_x then
  some 1
  else
  some 0
def slices_Max (a0_x : List UInt8) : Option Int :=
  Option.bind (α := Unit) (if (a0_x.length : Int) < 1 then
  none
  else
  some ()) fun _ =>
  if 0 ≤ (0 : Int) ∧ (0 : Int) < (a0_x.length : Int) then
  Option.bind (α := Int) (loop (σ := Int × Int) (β := Int) (fun (v7, v8) =>
  if v8 < (a0_x.length : Int) then
  if 0 ≤ v8 ∧ v8 < (a0_x.length : Int) then
  if I64 (v8 + 1) then
  some (St.next ((max v7 ((gi a0_x v8).toNat : Int)), (v8 + 1)))
  else none
  else none
  else
  some (St.done v7)) (((gi a0_x (0 : Int)).toNat : Int), 1)) fun v6 =>
  some v6
  else none
def slices_IndexFunc (a0_s : List Int) (a1_f : Int → Option Bool) : Option Int :=
  Option.bind (α := Ex (Unit) (Int)) (loop (σ := Int) (β := Ex (Unit) (Int)) (fun v2 =>
  if v2 < (a0_s.length : Int) then
  if 0 ≤ v2 ∧ v2 < (a0_s.length : Int) then
  Option.bind (a1_f (gi a0_s v2)) fun x8 =>
  if x8 = true then
  some (St.done (Ex.up v2))
  else
  if I64 (v2 + 1) then
  some (St.next (v2 + 1))
  else none
  else none
  else
  some (St.done (Ex.go ()))) 0) fun x => x.then fun _ =>
  some (-1)
def slices_ContainsFunc (a0_s : List Int) (a1_f : Int → Option Bool) : Option Bool :=
  Option.bind (slices_IndexFunc a0_s a1_f) fun x1 =>
  some (decide (0 ≤ x1))
def slices_IndexFuncB (a0_s : List Bld) (a1_f : Bld → Option Bool) : Option Int :=
  Option.bind (α := Ex (Unit) (Int)) (loop (σ := Int) (β := Ex (Unit) (Int)) (fun v2 =>
  if v2 < (a0_s.length : Int) then
  if 0 ≤ v2 ∧ v2 < (a0_s.length : Int) then
  Option.bind (a1_f (gi a0_s v2)) fun x8 =>
  if x8 = true then
  some (St.done (Ex.up v2))
  else
  if I64 (v2 + 1) then
  some (St.next (v2 + 1))
  else none
  else none
  else
  some (St.done (Ex.go ()))) 0) fun x => x.then fun _ =>
  some (-1)
def slices_ContainsFuncB (a0_s : List Bld) (a1_f : Bld → Option Bool) : Option Bool :=
  Option.bind (slices_IndexFuncB a0_s a1_f) fun x1 =>
  some (decide (0 ≤ x1))
def api_Building_int (a0_x : List Bld) (a1_target : Int) (a2_cmp : (Bld × Int) → Option Int) : Option (Int × Bool) :=
  Option.bind (α := Int) (loop (σ := Int × Int) (β := Int) (fun (v11, v12) =>
  if v11 < v12 then
  if I64 (v11 + v12) then
  if 0 ≤ ((v11 + v12) % 18446744073709551616) then
  if I64 (((v11 + v12) % 18446744073709551616) / 2) then
  if 0 ≤ (((v11 + v12) % 18446744073709551616) / 2) ∧ (((v11 + v12) % 18446744073709551616) / 2) < (a0_x.length : Int) then
  Option.bind (a2_cmp ((gi a0_x (((v11 + v12) % 18446744073709551616) / 2)), a1_target)) fun x21 =>
  if x21 < 0 then
  if I64 ((((v11 + v12) % 18446744073709551616) / 2) + 1) then
  some (St.next (((((v11 + v12) % 18446744073709551616) / 2) + 1), v12))
  else none
  else
  some (St.next (v11, (((v11 + v12) % 18446744073709551616) / 2)))
  else none
  else none
  else none
  else none
  else
  some (St.done v11)) (0, (a0_x.length : Int))) fun v2 =>
  Option.bind (if v2 < (a0_x.length : Int) then
  if 0 ≤ v2 ∧ v2 < (a0_x.length : Int) then
  Option.bind (a2_cmp ((gi a0_x v2), a1_target)) fun x10 =>
  some (decide (x10 = 0))
  else none
  else
  some false) fun b5 =>
  some (v2, b5)
def ground_Side (a0_n : Int) : Option Bool :=
  some (decide ((1 ≤ a0_n) ∧ (a0_n ≤ 128)))
def ground_May (a0_g : Grd) : Option Bool :=
  Option.bind (ground_Side a0_g.w) fun x2 =>
  Option.bind (if (!x2) = true then
  some true
  else
  Option.bind (ground_Side a0_g.h) fun x12 =>
  some (!x12)) fun b5 =>
  if ¬ (b5 = true) → (I64 (a0_g.w * a0_g.h)) then
  if (b5 = true) ∨ (¬ (a0_g.tiles.length : Int) = (a0_g.w * a0_g.h)) then
  some false
  else
  Option.bind (slices_Max a0_g.tiles) fun x10 =>
  some (decide (x10 ≤ 5))
  else none
def ground_Is (a0_g : Grd) (a1_t : Int) : Option Bool :=
  if (0 ≤ a1_t) → (I64 (a0_g.w * a0_g.h)) then
  some (decide ((0 ≤ a1_t) ∧ (a1_t < (a0_g.w * a0_g.h))))
  else none
def ground_On (a0_g : Grd) (a1_x : Int) (a2_y : Int) : Option Bool :=
  some (decide ((((0 ≤ a1_x) ∧ (a1_x < a0_g.w)) ∧ (0 ≤ a2_y)) ∧ (a2_y < a0_g.h)))
def build_form (a0_b : Bld) : Option Bool :=
  some (decide ((((((((1 ≤ a0_b.id) ∧ (a0_b.id ≤ 1099511627776)) ∧ (1 ≤ a0_b.owner)) ∧ (a0_b.owner ≤ 8)) ∧ (1 ≤ a0_b.w)) ∧ (a0_b.w ≤ 4)) ∧ (1 ≤ a0_b.h)) ∧ (a0_b.h ≤ 4)))
def build_on (a0_g : Grd) (a1_b : Bld) : Option Bool :=
  if (0 ≤ a1_b.x) → (I64 (a0_g.w - a1_b.w)) then
  if (((0 ≤ a1_b.x) ∧ (a1_b.x ≤ (a0_g.w - a1_b.w))) ∧ (0 ≤ a1_b.y)) → (I64 (a0_g.h - a1_b.h)) then
  some (decide ((((0 ≤ a1_b.x) ∧ (a1_b.x ≤ (a0_g.w - a1_b.w))) ∧ (0 ≤ a1_b.y)) ∧ (a1_b.y ≤ (a0_g.h - a1_b.h))))
  else none
  else none
def build_Tiles (a0_g : Grd) (a1_b : Bld) : Option (List Int) :=
  Option.bind (α := List Int) (loop (σ := List Int × Int) (β := List Int) (fun (l6, v8) =>
  if v8 < a1_b.h then
  Option.bind (α := List Int) (loop (σ := Int × List Int) (β := List Int) (fun (v15, l16) =>
  if v15 < a1_b.w then
  if I64 (a1_b.x + v15) then
  if I64 (a1_b.y + v8) then
  if I64 (a0_g.w * (a1_b.y + v8)) then
  if I64 ((a1_b.x + v15) + (a0_g.w * (a1_b.y + v8))) then
  if l16.length < 1099511627776 then
  if I64 (v15 + 1) then
  some (St.next ((v15 + 1), (l16 ++ [((a1_b.x + v15) + (a0_g.w * (a1_b.y + v8)))])))
  else none
  else none
  else none
  else none
  else none
  else none
  else
  some (St.done l16)) (0, l6)) fun v12 =>
  if I64 (v8 + 1) then
  some (St.next (v12, (v8 + 1)))
  else none
  else
  some (St.done l6)) ([], 0)) fun v4 =>
  some v4
def build_firm_1 (a0_t : Int) (c0 : Grd) : Option Bool :=
  if 0 ≤ a0_t ∧ a0_t < (c0.tiles.length : Int) then
  some (decide (1 < ((gi c0.tiles a0_t).toNat : Int)))
  else none
def build_firm (a0_g : Grd) (a1_b : Bld) : Option Bool :=
  Option.bind (build_Tiles a0_g a1_b) fun x3 =>
  Option.bind (slices_ContainsFunc x3 (fun y0 => build_firm_1 y0 a0_g)) fun x5 =>
  some (!x5)
def build_overlap (a0_a : Bld) (a1_b : Bld) : Option Bool :=
  if I64 (a1_b.x + a1_b.w) then
  if (a0_a.x < (a1_b.x + a1_b.w)) → (I64 (a0_a.x + a0_a.w)) then
  if ((a0_a.x < (a1_b.x + a1_b.w)) ∧ (a1_b.x < (a0_a.x + a0_a.w))) → (I64 (a1_b.y + a1_b.h)) then
  if (((a0_a.x < (a1_b.x + a1_b.w)) ∧ (a1_b.x < (a0_a.x + a0_a.w))) ∧ (a0_a.y < (a1_b.y + a1_b.h))) → (I64 (a0_a.y + a0_a.h)) then
  some (decide ((((a0_a.x < (a1_b.x + a1_b.w)) ∧ (a1_b.x < (a0_a.x + a0_a.w))) ∧ (a0_a.y < (a1_b.y + a1_b.h))) ∧ (a1_b.y < (a0_a.y + a0_a.h))))
  else none
  else none
  else none
  else none
def build_rising (a0_l : List Bld) : Option Bool :=
  Option.bind (α := Ex (Unit) (Bool)) (loop (σ := Int) (β := Ex (Unit) (Bool)) (fun v2 =>
  if v2 < (a0_l.length : Int) then
  if I64 (v2 - 1) then
  if 0 ≤ (v2 - 1) ∧ (v2 - 1) < (a0_l.length : Int) then
  if 0 ≤ v2 ∧ v2 < (a0_l.length : Int) then
  if (gi a0_l v2).id ≤ (gi a0_l (v2 - 1)).id then
  some (St.done (Ex.up false))
  else
  if I64 (v2 + 1) then
  some (St.next (v2 + 1))
  else none
  else none
  else none
  else none
  else
  some (St.done (Ex.go ()))) 1) fun x => x.then fun _ =>
  some true
def build_May (a0_g : Grd) (a1_l : List Bld) : Option Bool :=
  Option.bind (if 256 < (a1_l.length : Int) then
  some true
  else
  Option.bind (build_rising a1_l) fun x48 =>
  some (!x48)) fun b4 =>
  if b4 = true then
  some false
  else
  if 0 ≤ (a0_g.tiles.length : Int) ∧ (a0_g.tiles.length : Int) ≤ 281474976710656 then
  Option.bind (α := Ex (Unit) (Bool)) (loop (σ := Int × List Bool) (β := Ex (Unit) (Bool)) (fun (v9, l10) =>
  if v9 < (a1_l.length : Int) then
  if 0 ≤ v9 ∧ v9 < (a1_l.length : Int) then
  Option.bind (build_form (gi a1_l v9)) fun x17 =>
  Option.bind (if (!x17) = true then
  some true
  else
  Option.bind (build_on a0_g (gi a1_l v9)) fun x46 =>
  some (!x46)) fun b20 =>
  Option.bind (if b20 = true then
  some true
  else
  Option.bind (build_firm a0_g (gi a1_l v9)) fun x44 =>
  some (!x44)) fun b23 =>
  if b23 = true then
  some (St.done (Ex.up false))
  else
  Option.bind (build_Tiles a0_g (gi a1_l v9)) fun x25 =>
  Option.bind (α := Ex (List Bool) (St (Int × List Bool) (Ex (Unit) (Bool)))) (loop (σ := Int × List Bool) (β := Ex (List Bool) (St (Int × List Bool) (Ex (Unit) (Bool)))) (fun (v30, l31) =>
  if v30 < (x25.length : Int) then
  if 0 ≤ v30 ∧ v30 < (x25.length : Int) then
  if 0 ≤ (gi x25 v30) ∧ (gi x25 v30) < ((a0_g.tiles.length : Int).toNat : Int) then
  if (gi l31 (gi x25 v30)) = true then
  some (St.done (Ex.up (St.done (Ex.up false))))
  else
  if 0 ≤ (gi x25 v30) ∧ (gi x25 v30) < ((a0_g.tiles.length : Int).toNat : Int) then
  if I64 (v30 + 1) then
  some (St.next ((v30 + 1), (si l31 (gi x25 v30) true)))
  else none
  else none
  else none
  else none
  else
  some (St.done (Ex.go l31))) (0, l10)) fun x => x.then fun v28 =>
  if I64 (v9 + 1) then
  some (St.next ((v9 + 1), v28))
  else none
  else none
  else
  some (St.done (Ex.go ()))) (0, (List.replicate (a0_g.tiles.length : Int).toNat false))) fun x => x.then fun _ =>
  some true
  else none
def build_Check (a0_g : Grd) (a1_l : List Bld) : Option Int :=
  Option.bind (ground_May a0_g) fun x2 =>
  Option.bind (if (!x2) = true then
  some true
  else
  Option.bind (build_May a0_g a1_l) fun x8 =>
  some (!x8)) fun b5 =>
  if b5 = true then
  some 1
  else
  some 0
def build_find_1 (a0_b : Bld) (a1_id : Int) : Option Int :=
  Option.bind (cmp_Compare a0_b.id a1_id) fun x2 =>
  some x2
def build_find (a0_l : List Bld) (a1_id : Int) : Option (Int × Bool) :=
  Option.bind (api_Building_int a0_l a1_id (fun (y0, y1) => build_find_1 y0 y1)) fun x1 =>
  some (x1.1, x1.2)
def build_Put_1 (a0_x : Bld) (c0 : Bld) : Option Bool :=
  Option.bind (build_overlap a0_x c0) fun x2 =>
  some x2
def build_Put (a0_g : Grd) (a1_l : List Bld) (a2_b : Bld) : Option (List Bld × Int) :=
  Option.bind (build_find a1_l a2_b.id) fun x3 =>
  Option.bind (build_form a2_b) fun x4 =>
  if (!x4) = true then
  some ([], 1)
  else
  Option.bind (build_on a0_g a2_b) fun x6 =>
  if (!x6) = true then
  some ([], 3)
  else
  Option.bind (if x3.2 = true then
  some true
  else
  Option.bind (slices_ContainsFuncB a1_l (fun y0 => build_Put_1 y0 a2_b)) fun x226 =>
  some x226) fun b10 =>
  if b10 = true then
  some ([], 12)
  else
  Option.bind (build_firm a0_g a2_b) fun x12 =>
  if (!x12) = true then
  some ([], 5)
  else
  if (a1_l.length : Int) = 256 then
  some ([], 4)
  else
  Option.bind (α := Int × List Bld) (Option.bind (slices_Clone_Bld a1_l) fun x19 =>
  Option.bind (slices_Insert x19 x3.1 [a2_b]) fun x22 =>
  some (0, x22)) fun (v16, v17) =>
  some (v17, v16)
def build_Add (a0_g : Grd) (a1_l : List Bld) (a2_b : Bld) : Option (List Bld × Int) :=
  Option.bind (ground_May a0_g) fun x3 =>
  Option.bind (if (!x3) = true then
  some true
  else
  Option.bind (build_May a0_g a1_l) fun x11 =>
  some (!x11)) fun b6 =>
  if b6 = true then
  some ([], 1)
  else
  Option.bind (build_Put a0_g a1_l a2_b) fun x8 =>
  some (x8.1, x8.2)
def build_Drop (a0_l : List Bld) (a1_id : Int) : Option (List Bld × Int) :=
  Option.bind (build_rising a0_l) fun x1 =>
  if (!x1) = true then
  some ([], 1)
  else
  Option.bind (build_find a0_l a1_id) fun x3 =>
  if (!x3.2) = true then
  some ([], 3)
  else
  Option.bind (slices_Clone_Bld a0_l) fun x5 =>
  if I64 (x3.1 + 1) then
  Option.bind (slices_Delete x5 x3.1 (x3.1 + 1)) fun x8 =>
  some (x8, 0)
  else none
def build_Cover (a0_g : Grd) (a1_l : List Bld) : Option (List Bool) :=
  if 0 ≤ (a0_g.tiles.length : Int) ∧ (a0_g.tiles.length : Int) ≤ 281474976710656 then
  Option.bind (α := List Bool) (loop (σ := Int × List Bool) (β := List Bool) (fun (v6, l7) =>
  if v6 < (a1_l.length : Int) then
  if 0 ≤ v6 ∧ v6 < (a1_l.length : Int) then
  Option.bind (build_Tiles a0_g (gi a1_l v6)) fun x14 =>
  Option.bind (α := List Bool) (loop (σ := Int × List Bool) (β := List Bool) (fun (v19, l20) =>
  if v19 < (x14.length : Int) then
  if 0 ≤ v19 ∧ v19 < (x14.length : Int) then
  if 0 ≤ (gi x14 v19) ∧ (gi x14 v19) < ((a0_g.tiles.length : Int).toNat : Int) then
  if I64 (v19 + 1) then
  some (St.next ((v19 + 1), (si l20 (gi x14 v19) true)))
  else none
  else none
  else none
  else
  some (St.done l20)) (0, l7)) fun v17 =>
  if I64 (v6 + 1) then
  some (St.next ((v6 + 1), v17))
  else none
  else none
  else
  some (St.done l7)) (0, (List.replicate (a0_g.tiles.length : Int).toNat false))) fun v5 =>
  some v5
  else none
def build_Covered (a0_g : Grd) (a1_l : List Bld) : Option (List Bool × Int) :=
  Option.bind (ground_May a0_g) fun x2 =>
  Option.bind (if (!x2) = true then
  some true
  else
  Option.bind (build_May a0_g a1_l) fun x10 =>
  some (!x10)) fun b5 =>
  if b5 = true then
  some ([], 1)
  else
  Option.bind (build_Cover a0_g a1_l) fun x7 =>
  some (x7, 0)
def throngref5_Ground (a0_g : Grd) : Option Bool :=
  if ¬ ((((a0_g.w < 1) ∨ (128 < a0_g.w)) ∨ (a0_g.h < 1)) ∨ (128 < a0_g.h)) → (I64 (a0_g.w * a0_g.h)) then
  if ((((a0_g.w < 1) ∨ (128 < a0_g.w)) ∨ (a0_g.h < 1)) ∨ (128 < a0_g.h)) ∨ (¬ (a0_g.tiles.length : Int) = (a0_g.w * a0_g.h)) then
  some false
  else
  Option.bind (α := Ex (Unit) (Bool)) (loop (σ := Int) (β := Ex (Unit) (Bool)) (fun v13 =>
  if v13 < (a0_g.tiles.length : Int) then
  if 0 ≤ v13 ∧ v13 < (a0_g.tiles.length : Int) then
  if 5 < ((gi a0_g.tiles v13).toNat : Int) then
  some (St.done (Ex.up false))
  else
  if I64 (v13 + 1) then
  some (St.next (v13 + 1))
  else none
  else none
  else
  some (St.done (Ex.go ()))) 0) fun x => x.then fun _ =>
  some true
  else none
def throngref5_Tile (a0_g : Grd) (a1_t : Int) : Option Bool :=
  if (0 ≤ a1_t) → (I64 (a0_g.w * a0_g.h)) then
  some (decide ((0 ≤ a1_t) ∧ (a1_t < (a0_g.w * a0_g.h))))
  else none
def throngref8_Sides (a0_b : Bld) : Option Bool :=
  some (decide ((((((((1 ≤ a0_b.id) ∧ (a0_b.id ≤ 1099511627776)) ∧ (1 ≤ a0_b.owner)) ∧ (a0_b.owner ≤ 8)) ∧ (1 ≤ a0_b.w)) ∧ (a0_b.w ≤ 4)) ∧ (1 ≤ a0_b.h)) ∧ (a0_b.h ≤ 4)))
def throngref8_on (a0_g : Grd) (a1_b : Bld) : Option Bool :=
  if ((((0 ≤ a1_b.x) ∧ (0 ≤ a1_b.y)) ∧ (a1_b.x < a0_g.w)) ∧ (a1_b.y < a0_g.h)) → (I64 (a0_g.w - a1_b.x)) then
  if (((((0 ≤ a1_b.x) ∧ (0 ≤ a1_b.y)) ∧ (a1_b.x < a0_g.w)) ∧ (a1_b.y < a0_g.h)) ∧ (a1_b.w ≤ (a0_g.w - a1_b.x))) → (I64 (a0_g.h - a1_b.y)) then
  some (decide ((((((0 ≤ a1_b.x) ∧ (0 ≤ a1_b.y)) ∧ (a1_b.x < a0_g.w)) ∧ (a1_b.y < a0_g.h)) ∧ (a1_b.w ≤ (a0_g.w - a1_b.x))) ∧ (a1_b.h ≤ (a0_g.h - a1_b.y))))
  else none
  else none
def throngref8_Has (a0_g : Grd) (a1_b : Bld) (a2_t : Int) : Option Bool :=
  if 0 ≤ a2_t ∧ a2_t ≤ 9223372036854775807 ∧ (1 : Int) ≤ a0_g.w then
  if 0 ≤ a2_t ∧ a2_t ≤ 9223372036854775807 ∧ (1 : Int) ≤ a0_g.w then
  if (a1_b.x ≤ (a2_t % a0_g.w)) → (I64 (a1_b.x + a1_b.w)) then
  if (((a1_b.x ≤ (a2_t % a0_g.w)) ∧ ((a2_t % a0_g.w) < (a1_b.x + a1_b.w))) ∧ (a1_b.y ≤ (a2_t / a0_g.w))) → (I64 (a1_b.y + a1_b.h)) then
  some (decide ((((a1_b.x ≤ (a2_t % a0_g.w)) ∧ ((a2_t % a0_g.w) < (a1_b.x + a1_b.w))) ∧ (a1_b.y ≤ (a2_t / a0_g.w))) ∧ ((a2_t / a0_g.w) < (a1_b.y + a1_b.h))))
  else none
  else none
  else none
  else none
def throngref8_firm (a0_g : Grd) (a1_b : Bld) : Option Bool :=
  Option.bind (α := Ex (Unit) (Bool)) (loop (σ := Int) (β := Ex (Unit) (Bool)) (fun v4 =>
  if I64 (a0_g.w * a0_g.h) then
  if v4 < (a0_g.w * a0_g.h) then
  Option.bind (throngref8_Has a0_g a1_b v4) fun x8 =>
  if (x8 = true) → (0 ≤ v4 ∧ v4 < (a0_g.tiles.length : Int)) then
  if ((x8 = true) ∧ (¬ ((gi a0_g.tiles v4).toNat : Int) = 0)) → (0 ≤ v4 ∧ v4 < (a0_g.tiles.length : Int)) then
  if ((x8 = true) ∧ (¬ ((gi a0_g.tiles v4).toNat : Int) = 0)) ∧ (¬ ((gi a0_g.tiles v4).toNat : Int) = 1) then
  some (St.done (Ex.up false))
  else
  if I64 (v4 + 1) then
  some (St.next (v4 + 1))
  else none
  else none
  else none
  else
  some (St.done (Ex.go ()))
  else none) 0) fun x => x.then fun _ =>
  some true
def throngref8_meet (a0_a : Bld) (a1_b : Bld) : Option Bool :=
  if I64 (a1_b.x + a1_b.w) then
  if (a0_a.x < (a1_b.x + a1_b.w)) → (I64 (a0_a.x + a0_a.w)) then
  if ((a0_a.x < (a1_b.x + a1_b.w)) ∧ (a1_b.x < (a0_a.x + a0_a.w))) → (I64 (a1_b.y + a1_b.h)) then
  if (((a0_a.x < (a1_b.x + a1_b.w)) ∧ (a1_b.x < (a0_a.x + a0_a.w))) ∧ (a0_a.y < (a1_b.y + a1_b.h))) → (I64 (a0_a.y + a0_a.h)) then
  some (decide ((((a0_a.x < (a1_b.x + a1_b.w)) ∧ (a1_b.x < (a0_a.x + a0_a.w))) ∧ (a0_a.y < (a1_b.y + a1_b.h))) ∧ (a1_b.y < (a0_a.y + a0_a.h))))
  else none
  else none
  else none
  else none
def throngref8_IDs (a0_l : List Bld) : Option Bool :=
  Option.bind (α := Ex (Unit) (Bool)) (loop (σ := Int) (β := Ex (Unit) (Bool)) (fun v2 =>
  if v2 < (a0_l.length : Int) then
  if 0 ≤ v2 ∧ v2 < (a0_l.length : Int) then
  if I64 (v2 - 1) then
  if 0 ≤ (v2 - 1) ∧ (v2 - 1) < (a0_l.length : Int) then
  if (gi a0_l v2).id ≤ (gi a0_l (v2 - 1)).id then
  some (St.done (Ex.up false))
  else
  if I64 (v2 + 1) then
  some (St.next (v2 + 1))
  else none
  else none
  else none
  else none
  else
  some (St.done (Ex.go ()))) 1) fun x => x.then fun _ =>
  some true
def throngref8_May (a0_g : Grd) (a1_l : List Bld) : Option Bool :=
  Option.bind (throngref5_Ground a0_g) fun x2 =>
  Option.bind (if ((!x2) = true) ∨ (256 < (a1_l.length : Int)) then
  some true
  else
  Option.bind (throngref8_IDs a1_l) fun x41 =>
  some (!x41)) fun b7 =>
  if b7 = true then
  some false
  else
  Option.bind (α := Ex (Unit) (Bool)) (loop (σ := Int) (β := Ex (Unit) (Bool)) (fun v10 =>
  if v10 < (a1_l.length : Int) then
  if 0 ≤ v10 ∧ v10 < (a1_l.length : Int) then
  Option.bind (throngref8_Sides (gi a1_l v10)) fun x16 =>
  Option.bind (if (!x16) = true then
  some true
  else
  if 0 ≤ v10 ∧ v10 < (a1_l.length : Int) then
  Option.bind (throngref8_on a0_g (gi a1_l v10)) fun x39 =>
  some (!x39)
  else none) fun b19 =>
  Option.bind (if b19 = true then
  some true
  else
  if 0 ≤ v10 ∧ v10 < (a1_l.length : Int) then
  Option.bind (throngref8_firm a0_g (gi a1_l v10)) fun x36 =>
  some (!x36)
  else none) fun b22 =>
  if b22 = true then
  some (St.done (Ex.up false))
  else
  Option.bind (α := Ex (Unit) (St (Int) (Ex (Unit) (Bool)))) (loop (σ := Int) (β := Ex (Unit) (St (Int) (Ex (Unit) (Bool)))) (fun v26 =>
  if v26 < v10 then
  if 0 ≤ v10 ∧ v10 < (a1_l.length : Int) then
  if 0 ≤ v26 ∧ v26 < (a1_l.length : Int) then
  Option.bind (throngref8_meet (gi a1_l v10) (gi a1_l v26)) fun x31 =>
  if x31 = true then
  some (St.done (Ex.up (St.done (Ex.up false))))
  else
  if I64 (v26 + 1) then
  some (St.next (v26 + 1))
  else none
  else none
  else none
  else
  some (St.done (Ex.go ()))) 0) fun x => x.then fun _ =>
  if I64 (v10 + 1) then
  some (St.next (v10 + 1))
  else none
  else none
  else
  some (St.done (Ex.go ()))) 0) fun x => x.then fun _ =>
  some true
def throngref8_Add (a0_g : Grd) (a1_l : List Bld) (a2_b : Bld) : Option (List Bld × Int) :=
  Option.bind (throngref8_Sides a2_b) fun x3 =>
  if (!x3) = true then
  some ([], 1)
  else
  Option.bind (throngref8_on a0_g a2_b) fun x5 =>
  if (!x5) = true then
  some ([], 3)
  else
  Option.bind (α := Ex (Unit) (List Bld × Int)) (loop (σ := Int) (β := Ex (Unit) (List Bld × Int)) (fun v235 =>
  if v235 < (a1_l.length : Int) then
  if 0 ≤ v235 ∧ v235 < (a1_l.length : Int) then
  Option.bind (if (gi a1_l v235).id = a2_b.id then
  some true
  else
  if 0 ≤ v235 ∧ v235 < (a1_l.length : Int) then
  Option.bind (throngref8_meet (gi a1_l v235) a2_b) fun x248 =>
  some x248
  else none) fun b243 =>
  if b243 = true then
  some (St.done (Ex.up ([], 12)))
  else
  if I64 (v235 + 1) then
  some (St.next (v235 + 1))
  else none
  else none
  else
  some (St.done (Ex.go ()))) 0) fun x => x.then fun _ =>
  Option.bind (throngref8_firm a0_g a2_b) fun x8 =>
  if (!x8) = true then
  some ([], 5)
  else
  if 256 ≤ (a1_l.length : Int) then
  some ([], 4)
  else
  Option.bind (α := Int) (loop (σ := Int) (β := Int) (fun v226 =>
  if (v226 < (a1_l.length : Int)) → (0 ≤ v226 ∧ v226 < (a1_l.length : Int)) then
  if (v226 < (a1_l.length : Int)) ∧ ((gi a1_l v226).id < a2_b.id) then
  if I64 (v226 + 1) then
  some (St.next (v226 + 1))
  else none
  else
  some (St.done v226)
  else none) 0) fun v12 =>
  Option.bind (α := List Bld) (if 0 ≤ v12 ∧ v12 ≤ (a1_l.length : Int) then
  Option.bind (throngref0_CopyBuildings (a1_l.take v12.toNat)) fun x20 =>
  if x20.length < 1099511627776 then
  some (x20 ++ [a2_b])
  else none
  else none) fun v14 =>
  if 0 ≤ v12 ∧ v12 ≤ (a1_l.length : Int) then
  if v14.length + (a1_l.drop v12.toNat).length < 1099511627776 then
  some ((v14 ++ (a1_l.drop v12.toNat)), 0)
  else none
  else none
def throngref8_Drop (a0_l : List Bld) (a1_id : Int) : Option (List Bld × Bool) :=
  Option.bind (α := Ex (Unit) (List Bld × Bool)) (loop (σ := Int) (β := Ex (Unit) (List Bld × Bool)) (fun v2 =>
  if v2 < (a0_l.length : Int) then
  if 0 ≤ v2 ∧ v2 < (a0_l.length : Int) then
  if (gi a0_l v2).id = a1_id then
  if 0 ≤ v2 ∧ v2 ≤ (a0_l.length : Int) then
  Option.bind (throngref0_CopyBuildings (a0_l.take v2.toNat)) fun x10 =>
  if I64 (v2 + 1) then
  if 0 ≤ (v2 + 1) ∧ (v2 + 1) ≤ (a0_l.length : Int) then
  if x10.length + (a0_l.drop (v2 + 1).toNat).length < 1099511627776 then
  some (St.done (Ex.up ((x10 ++ (a0_l.drop (v2 + 1).toNat)), true)))
  else none
  else none
  else none
  else none
  else
  if I64 (v2 + 1) then
  some (St.next (v2 + 1))
  else none
  else none
  else
  some (St.done (Ex.go ()))) 0) fun x => x.then fun _ =>
  some ([], false)
def throngref8_Covered (a0_g : Grd) (a1_l : List Bld) : Option (List Bool) :=
  if I64 (a0_g.w * a0_g.h) then
  if 0 ≤ (a0_g.w * a0_g.h) ∧ (a0_g.w * a0_g.h) ≤ 281474976710656 then
  Option.bind (α := List Bool) (loop (σ := Int × List Bool) (β := List Bool) (fun (v7, l8) =>
  if v7 < (a1_l.length : Int) then
  if 0 ≤ v7 ∧ v7 < (a1_l.length : Int) then
  Option.bind (α := List Bool) (loop (σ := Int × List Bool) (β := List Bool) (fun (v17, l18) =>
  if 0 ≤ v7 ∧ v7 < (a1_l.length : Int) then
  if 0 ≤ v7 ∧ v7 < (a1_l.length : Int) then
  if I64 (((gi a1_l v7).y) + ((gi a1_l v7).h)) then
  if v17 < (((gi a1_l v7).y) + ((gi a1_l v7).h)) then
  if 0 ≤ v7 ∧ v7 < (a1_l.length : Int) then
  Option.bind (α := List Bool) (loop (σ := Int × List Bool) (β := List Bool) (fun (v28, l29) =>
  if 0 ≤ v7 ∧ v7 < (a1_l.length : Int) then
  if 0 ≤ v7 ∧ v7 < (a1_l.length : Int) then
  if I64 (((gi a1_l v7).x) + ((gi a1_l v7).w)) then
  if v28 < (((gi a1_l v7).x) + ((gi a1_l v7).w)) then
  if I64 (a0_g.w * v17) then
  if I64 (v28 + (a0_g.w * v17)) then
  if 0 ≤ (v28 + (a0_g.w * v17)) ∧ (v28 + (a0_g.w * v17)) < ((a0_g.w * a0_g.h).toNat : Int) then
  if I64 (v28 + 1) then
  some (St.next ((v28 + 1), (si l29 (v28 + (a0_g.w * v17)) true)))
  else none
  else none
  else none
  else none
  else
  some (St.done l29)
  else none
  else none
  else none) ((gi a1_l v7).x, l18)) fun v26 =>
  if I64 (v17 + 1) then
  some (St.next ((v17 + 1), v26))
  else none
  else none
  else
  some (St.done l18)
  else none
  else none
  else none) ((gi a1_l v7).y, l8)) fun v15 =>
  if I64 (v7 + 1) then
  some (St.next ((v7 + 1), v15))
  else none
  else none
  else
  some (St.done l8)) (0, (List.replicate (a0_g.w * a0_g.h).toNat false))) fun v6 =>
  some v6
  else none
  else none
def thronglaw8_num (a0_e : Int) : Option Int :=
  some a0_e
def thronglaw8_wakes : Option Bool :=
  if 0 ≤ (3 : Int) ∧ (3 : Int) ≤ 281474976710656 then
  Option.bind (build_Add (⟨3, 1, (List.replicate (3 : Int).toNat (0 : UInt8))⟩ : Grd) [] (⟨1, 1, 0, 0, 2, 1⟩ : Bld)) fun x4 =>
  Option.bind (build_Add (⟨3, 1, (List.replicate (3 : Int).toNat (0 : UInt8))⟩ : Grd) x4.1 (⟨2, 1, 1, 0, 2, 1⟩ : Bld)) fun x6 =>
  Option.bind (thronglaw8_num x4.2) fun x8 =>
  Option.bind (if (x8 = 0) ∧ ((x4.1.length : Int) = 1) then
  Option.bind (thronglaw8_num x6.2) fun x15 =>
  some (decide (x15 = 12))
  else
  some false) fun b13 =>
  some b13
  else none
def thronglaw8_heavy (a0_p : Ask8) : Option Bool :=
  Option.bind (thronglaw0_Great a0_p.g a0_p.l) fun x2 =>
  some (decide (((x2 = true) ∨ (60 < (a0_p.more.length : Int))) ∨ (60 < (a0_p.ids.length : Int))))
def thronglaw8_check (a0_g : Grd) (a1_l : List Bld) : Option Int :=
  Option.bind (throngref8_May a0_g a1_l) fun x2 =>
  if x2 = true then
  some 0
  else
  some 1
def thronglaw8_BuildEdges (a0_p : Ask8) : Option Bool :=
  Option.bind (thronglaw8_heavy a0_p) fun x2 =>
  Option.bind (if x2 = true then
  some true
  else
  Option.bind (throngref5_Ground a0_p.g) fun x247 =>
  some (!x247)) fun b5 =>
  if ((b5 = true) ∨ (20 < a0_p.g.w)) ∨ (20 < a0_p.g.h) then
  some true
  else
  Option.bind (α := List UInt8) (if I64 (a0_p.g.w * a0_p.g.h) then
  if 0 ≤ (a0_p.g.w * a0_p.g.h) ∧ (a0_p.g.w * a0_p.g.h) ≤ 281474976710656 then
  some (List.replicate (a0_p.g.w * a0_p.g.h).toNat (0 : UInt8))
  else none
  else none) fun v13 =>
  Option.bind (α := Ex (Unit) (Bool)) (loop (σ := Int) (β := Ex (Unit) (Bool)) (fun v17 =>
  if v17 ≤ 5 then
  Option.bind (α := Ex (Unit) (St (Int) (Ex (Unit) (Bool)))) (loop (σ := Int) (β := Ex (Unit) (St (Int) (Ex (Unit) (Bool)))) (fun v22 =>
  if v22 ≤ a0_p.g.w then
  Option.bind (build_Add (⟨a0_p.g.w, a0_p.g.h, v13⟩ : Grd) [] (⟨1, 1, v22, 0, v17, 1⟩ : Bld)) fun x25 =>
  Option.bind (α := Int) (if (v17 < 1) ∨ (4 < v17) then
  some 1
  else
  if ¬ (v22 < 0) → (I64 (v22 + v17)) then
  if (v22 < 0) ∨ (a0_p.g.w < (v22 + v17)) then
  some 3
  else
  some 0
  else none) fun v30 =>
  Option.bind (thronglaw8_num x25.2) fun x31 =>
  if (¬ x31 = v30) ∨ (¬ (decide (v30 = 0)) = (decide ((x25.1.length : Int) = 1))) then
  some (St.done (Ex.up (St.done (Ex.up false))))
  else
  if I64 (v22 + 1) then
  some (St.next (v22 + 1))
  else none
  else
  some (St.done (Ex.go ()))) (-1)) fun x => x.then fun _ =>
  if I64 (v17 + 1) then
  some (St.next (v17 + 1))
  else none
  else
  some (St.done (Ex.go ()))) 0) fun x => x.then fun _ =>
  Option.bind (thronglaw8_wakes) fun x16 =>
  some x16
def thronglaw8_BuildAdds (a0_p : Ask8) : Option Bool :=
  Option.bind (thronglaw8_heavy a0_p) fun x2 =>
  if x2 = true then
  some true
  else
  Option.bind (throngref0_CopyBuildings a0_p.l) fun x4 =>
  Option.bind (α := Ex (Unit) (Bool)) (loop (σ := Int × List Bld) (β := Ex (Unit) (Bool)) (fun (v8, l9) =>
  if (v8 < (a0_p.more.length : Int)) ∧ (v8 < 15) then
  Option.bind (thronglaw8_check a0_p.g l9) fun x15 =>
  Option.bind (α := Int × List Bld) (if x15 = 0 then
  if 0 ≤ v8 ∧ v8 < (a0_p.more.length : Int) then
  Option.bind (throngref8_Add a0_p.g l9 (gi a0_p.more v8)) fun x57 =>
  some (x57.2, x57.1)
  else none
  else
  some (x15, [])) fun (v17, v18) =>
  Option.bind (throngref0_CopyBuildings l9) fun x20 =>
  if 0 ≤ v8 ∧ v8 < (a0_p.more.length : Int) then
  Option.bind (build_Add a0_p.g x20 (gi a0_p.more v8)) fun x25 =>
  Option.bind (build_Check a0_p.g x20) fun x27 =>
  Option.bind (thronglaw8_num x27) fun x28 =>
  Option.bind (if ¬ x28 = x15 then
  some true
  else
  Option.bind (thronglaw8_num x25.2) fun x52 =>
  some (decide (¬ x52 = v17))) fun b31 =>
  Option.bind (if b31 = true then
  some true
  else
  Option.bind (throngref0_EqBuildings x25.1 v18) fun x50 =>
  some (!x50)) fun b34 =>
  Option.bind (if b34 = true then
  some true
  else
  Option.bind (throngref0_EqBuildings x20 l9) fun x48 =>
  some (!x48)) fun b37 =>
  if b37 = true then
  some (St.done (Ex.up false))
  else
  Option.bind (thronglaw0_Buildings x25.1) fun x39 =>
  Option.bind (throngref0_EqBuildings x20 l9) fun x40 =>
  if (!x40) = true then
  some (St.done (Ex.up false))
  else
  if v17 = 0 then
  Option.bind (throngref0_CopyBuildings v18) fun x43 =>
  if I64 (v8 + 1) then
  some (St.next ((v8 + 1), x43))
  else none
  else
  if I64 (v8 + 1) then
  some (St.next ((v8 + 1), l9))
  else none
  else none
  else
  some (St.done (Ex.go ()))) (0, x4)) fun x => x.then fun _ =>
  Option.bind (thronglaw8_wakes) fun x7 =>
  some x7
def thronglaw8_BuildCovers (a0_p : Ask8) : Option Bool :=
  Option.bind (thronglaw8_heavy a0_p) fun x2 =>
  if x2 = true then
  some true
  else
  Option.bind (thronglaw8_check a0_p.g a0_p.l) fun x4 =>
  Option.bind (α := List Bool) (if x4 = 0 then
  Option.bind (throngref8_Covered a0_p.g a0_p.l) fun x20 =>
  some x20
  else
  some []) fun v6 =>
  Option.bind (build_Covered a0_p.g a0_p.l) fun x8 =>
  Option.bind (thronglaw8_num x8.2) fun x10 =>
  Option.bind (if ¬ x10 = x4 then
  some true
  else
  Option.bind (throngref0_EqBools x8.1 v6) fun x18 =>
  some (!x18)) fun b13 =>
  if b13 = true then
  some false
  else
  Option.bind (thronglaw0_Bools x8.1) fun x15 =>
  Option.bind (thronglaw8_wakes) fun x16 =>
  some x16
def thronglaw8_BuildDrops (a0_p : Ask8) : Option Bool :=
  Option.bind (thronglaw8_heavy a0_p) fun x2 =>
  if x2 = true then
  some true
  else
  Option.bind (α := Ex (Unit) (Bool)) (loop (σ := Int) (β := Ex (Unit) (Bool)) (fun v6 =>
  if (v6 < (a0_p.ids.length : Int)) ∧ (v6 < 15) then
  Option.bind (throngref8_IDs a0_p.l) fun x11 =>
  Option.bind (α := Int × List Bld) (if x11 = true then
  if 0 ≤ v6 ∧ v6 < (a0_p.ids.length : Int) then
  Option.bind (throngref8_Drop a0_p.l (gi a0_p.ids v6)) fun x40 =>
  if (!x40.2) = true then
  some (3, x40.1)
  else
  some (0, x40.1)
  else none
  else
  some (1, [])) fun (v13, v14) =>
  Option.bind (throngref0_CopyBuildings a0_p.l) fun x16 =>
  if 0 ≤ v6 ∧ v6 < (a0_p.ids.length : Int) then
  Option.bind (build_Drop x16 (gi a0_p.ids v6)) fun x21 =>
  Option.bind (thronglaw8_num x21.2) fun x23 =>
  Option.bind (if ¬ x23 = v13 then
  some true
  else
  Option.bind (throngref0_EqBuildings x21.1 v14) fun x35 =>
  some (!x35)) fun b26 =>
  Option.bind (if b26 = true then
  some true
  else
  Option.bind (throngref0_EqBuildings x16 a0_p.l) fun x33 =>
  some (!x33)) fun b29 =>
  if b29 = true then
  some (St.done (Ex.up false))
  else
  if I64 (v6 + 1) then
  some (St.next (v6 + 1))
  else none
  else none
  else
  some (St.done (Ex.go ()))) 0) fun x => x.then fun _ =>
  Option.bind (thronglaw8_wakes) fun x5 =>
  some x5
def thronglaw8_BuildOrders (a0_p : Ask8) : Option Bool :=
  Option.bind (thronglaw8_heavy a0_p) fun x2 =>
  Option.bind (if x2 = true then
  some true
  else
  Option.bind (build_Check a0_p.g a0_p.l) fun x98 =>
  Option.bind (thronglaw8_num x98) fun x99 =>
  some (decide (¬ x99 = 0))) fun b5 =>
  if b5 = true then
  some true
  else
  if I64 ((a0_p.l.length : Int) - 1) then
  Option.bind (α := Ex (Int × List Bld) (Bool)) (loop (σ := List Bld × Int × Int) (β := Ex (Int × List Bld) (Bool)) (fun (l79, v81, v82) =>
  if 0 ≤ v82 then
  if 0 ≤ v82 ∧ v82 < (a0_p.l.length : Int) then
  Option.bind (build_Add a0_p.g l79 (gi a0_p.l v82)) fun x88 =>
  Option.bind (thronglaw8_num x88.2) fun x90 =>
  if ¬ x90 = 0 then
  some (St.done (Ex.up false))
  else
  if 0 ≤ v82 ∧ v82 < (a0_p.l.length : Int) then
  if 0 ≤ v82 ∧ v82 < (a0_p.l.length : Int) then
  if I64 (((gi a0_p.l v82).w) * ((gi a0_p.l v82).h)) then
  if I64 (v81 + (((gi a0_p.l v82).w) * ((gi a0_p.l v82).h))) then
  if I64 (v82 - 1) then
  some (St.next (x88.1, (v81 + (((gi a0_p.l v82).w) * ((gi a0_p.l v82).h))), (v82 - 1)))
  else none
  else none
  else none
  else none
  else none
  else none
  else
  some (St.done (Ex.go (v81, l79)))) ([], 0, ((a0_p.l.length : Int) - 1))) fun x => x.then fun (v9, v10) =>
  Option.bind (build_Covered a0_p.g a0_p.l) fun x12 =>
  Option.bind (thronglaw8_num x12.2) fun x14 =>
  Option.bind (if ¬ x14 = 0 then
  some true
  else
  Option.bind (throngref0_EqBuildings v10 a0_p.l) fun x78 =>
  some (!x78)) fun b17 =>
  if b17 = true then
  some false
  else
  Option.bind (α := Ex (Int) (Bool)) (loop (σ := Int × Int) (β := Ex (Int) (Bool)) (fun (v59, v60) =>
  if v60 < (x12.1.length : Int) then
  if 0 ≤ v60 ∧ v60 < (x12.1.length : Int) then
  if (gi x12.1 v60) = true then
  if I64 (v59 - 1) then
  if 0 ≤ v60 ∧ v60 < (a0_p.g.tiles.length : Int) then
  if (¬ ((gi a0_p.g.tiles v60).toNat : Int) = 0) → (0 ≤ v60 ∧ v60 < (a0_p.g.tiles.length : Int)) then
  if (¬ ((gi a0_p.g.tiles v60).toNat : Int) = 0) ∧ (¬ ((gi a0_p.g.tiles v60).toNat : Int) = 1) then
  some (St.done (Ex.up false))
  else
  if I64 (v60 + 1) then
  some (St.next ((v59 - 1), (v60 + 1)))
  else none
  else none
  else none
  else none
  else
  if I64 (v60 + 1) then
  some (St.next (v59, (v60 + 1)))
  else none
  else none
  else
  some (St.done (Ex.go v59))) (v9, 0)) fun x => x.then fun v20 =>
  Option.bind (α := Ex (Unit) (Bool)) (loop (σ := Int) (β := Ex (Unit) (Bool)) (fun v27 =>
  if v27 < (a0_p.l.length : Int) then
  if 0 ≤ v27 ∧ v27 < (a0_p.l.length : Int) then
  Option.bind (build_Drop a0_p.l ((gi a0_p.l v27).id)) fun x33 =>
  if 0 ≤ v27 ∧ v27 < (a0_p.l.length : Int) then
  Option.bind (build_Add a0_p.g a0_p.l (gi a0_p.l v27)) fun x36 =>
  if 0 ≤ v27 ∧ v27 < (a0_p.l.length : Int) then
  Option.bind (build_Add a0_p.g x33.1 (gi a0_p.l v27)) fun x39 =>
  Option.bind (thronglaw8_num x33.2) fun x41 =>
  Option.bind (if ¬ x41 = 0 then
  some true
  else
  Option.bind (thronglaw8_num x36.2) fun x58 =>
  some (decide (¬ x58 = 12))) fun b44 =>
  Option.bind (if b44 = true then
  some true
  else
  Option.bind (thronglaw8_num x39.2) fun x56 =>
  some (decide (¬ x56 = 0))) fun b47 =>
  Option.bind (if b47 = true then
  some true
  else
  Option.bind (throngref0_EqBuildings x39.1 a0_p.l) fun x54 =>
  some (!x54)) fun b50 =>
  if b50 = true then
  some (St.done (Ex.up false))
  else
  if I64 (v27 + 1) then
  some (St.next (v27 + 1))
  else none
  else none
  else none
  else none
  else
  some (St.done (Ex.go ()))) 0) fun x => x.then fun _ =>
  Option.bind (if v20 = 0 then
  Option.bind (thronglaw8_wakes) fun x26 =>
  some x26
  else
  some false) fun b24 =>
  some b24
  else none
end Go.Proofs.Ytgpjjcncdaelpaa
