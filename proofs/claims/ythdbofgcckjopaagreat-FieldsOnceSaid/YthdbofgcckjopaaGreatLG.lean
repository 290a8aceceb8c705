/-
  Caches, copies and comparisons as pure functions.
-/
import Derived.Test.YthdbofgcckjopaaGreatRows
import Derived.Test.YthdbofgcckjopaaGreatCI
import Derived.Test.YthdbofgcckjopaaGreatLO
import Derived.Test.YthdbofgcckjopaaGreatZC
import Derived.Test.YthdbofgcckjopaaGreatZE
import Derived.Test.YthdbofgcckjopaaGreatW3
import Derived.Test.YthdbofgcckjopaaGreatFG
set_option linter.unusedVariables false
set_option linter.unusedSimpArgs false
set_option maxRecDepth 20000
set_option maxHeartbeats 4000000
namespace Go.Proofs.YthdbofgcckjopaaGreat
open Go.Vg
open Enc (R)
def slices_Index (a0_s : List Int) (a1_v : Int) : Option Int :=
  Option.bind (α := Ex (Unit) (Int)) (loop (σ := Int) (β := Ex (Unit) (Int)) (fun v2 =>
  if v2 < (a0_s.length : Int) then
  if 0 ≤ v2 ∧ v2 < (a0_s.length : Int) then
  if a1_v = (gi a0_s v2) then
  some (St.done (Ex.up v2))
  else
  if I64 (v2 + 1) then
  some (St.next (v2 + 1))
  else none
  else none
  else
  some (St.done (Ex.go ()))) 0) fun x => x.then fun _ =>
  some (-1)
def cache_New (a0_room : Int) : Option (Option Cach × Int) :=
  if (a0_room < 1) ∨ (4096 < a0_room) then
  some (none, 1)
  else
  some (some (⟨a0_room, mNil, ([] : List Int), 0, 0⟩ : Cach), 0)
def cache_Cache_out (a0_c : Cach) (a1_key : Int) : Option Cach :=
  Option.bind (slices_Index a0_c.keys a1_key) fun x3 =>
  if 0 ≤ x3 then
  if I64 (x3 + 1) then
  Option.bind (slices_Delete a0_c.keys x3 (x3 + 1)) fun x6 =>
  some (⟨a0_c.room, a0_c.vals, x6, a0_c.hits, a0_c.misses⟩ : Cach)
  else none
  else
  some a0_c
def cache_Cache_use (a0_c : Cach) (a1_key : Int) : Option Cach :=
  Option.bind (cache_Cache_out a0_c a1_key) fun x3 =>
  Option.bind (slices_Insert x3.keys 0 [a1_key]) fun x7 =>
  some (⟨x3.room, x3.vals, x7, x3.hits, x3.misses⟩ : Cach)
def cache_Cache_Put (a0_c : Cach) (a1_key : Int) (a2_val : Int) : Option Cach :=
  Option.bind (cache_Cache_use (⟨a0_c.room, (mPut a0_c.vals a1_key a2_val), a0_c.keys, a0_c.hits, a0_c.misses⟩ : Cach) a1_key) fun x3 =>
  if x3.room < (x3.keys.length : Int) then
  if I64 ((x3.keys.length : Int) - 1) then
  if 0 ≤ ((x3.keys.length : Int) - 1) ∧ ((x3.keys.length : Int) - 1) < (x3.keys.length : Int) then
  if I64 ((x3.keys.length : Int) - 1) then
  if 0 ≤ ((x3.keys.length : Int) - 1) ∧ ((x3.keys.length : Int) - 1) ≤ (x3.keys.length : Int) then
  some (⟨x3.room, (mDel x3.vals (gi x3.keys ((x3.keys.length : Int) - 1))), (x3.keys.take ((x3.keys.length : Int) - 1).toNat), x3.hits, x3.misses⟩ : Cach)
  else none
  else none
  else none
  else none
  else
  some x3
def cache_Cache_Get (a0_c : Cach) (a1_key : Int) : Option (Int × Bool × Cach) :=
  if (!((a0_c.vals a1_key).isSome)) = true then
  if I64 (a0_c.misses + 1) then
  some (0, false, (⟨a0_c.room, a0_c.vals, a0_c.keys, a0_c.hits, (a0_c.misses + 1)⟩ : Cach))
  else none
  else
  if I64 (a0_c.hits + 1) then
  Option.bind (cache_Cache_use (⟨a0_c.room, a0_c.vals, a0_c.keys, (a0_c.hits + 1), a0_c.misses⟩ : Cach) a1_key) fun x6 =>
  some (((a0_c.vals a1_key).getD 0), true, x6)
  else none
def cache_Cache_Clear (a0_c : Cach) : Option Cach :=
  some (⟨a0_c.room, mNil, [], a0_c.hits, a0_c.misses⟩ : Cach)
def cache_Cache_Keys (a0_c : Cach) : Option (List Int) :=
  Option.bind (slices_Clone_Int a0_c.keys) fun x3 =>
  some x3
def slices_EqualBytes (a0_s1 : List UInt8) (a1_s2 : List UInt8) : Option Bool :=
  if ¬ (a0_s1.length : Int) = (a1_s2.length : Int) then
  some false
  else
  Option.bind (α := Ex (Unit) (Bool)) (loop (σ := Int) (β := Ex (Unit) (Bool)) (fun v3 =>
  if v3 < (a0_s1.length : Int) then
  if 0 ≤ v3 ∧ v3 < (a0_s1.length : Int) then
  if 0 ≤ v3 ∧ v3 < (a1_s2.length : Int) then
  if ¬ ((gi a0_s1 v3).toNat : Int) = ((gi a1_s2 v3).toNat : Int) then
  some (St.done (Ex.up false))
  else
  if I64 (v3 + 1) then
  some (St.next (v3 + 1))
  else none
  else none
  else none
  else
  some (St.done (Ex.go ()))) 0) fun x => x.then fun _ =>
  some true
def slices_EqualBld (a0_s1 : List Bld) (a1_s2 : List Bld) : Option Bool :=
  if ¬ (a0_s1.length : Int) = (a1_s2.length : Int) then
  some false
  else
  Option.bind (α := Ex (Unit) (Bool)) (loop (σ := Int) (β := Ex (Unit) (Bool)) (fun v3 =>
  if v3 < (a0_s1.length : Int) then
  if 0 ≤ v3 ∧ v3 < (a0_s1.length : Int) then
  if 0 ≤ v3 ∧ v3 < (a1_s2.length : Int) then
  if ¬ (gi a0_s1 v3) = (gi a1_s2 v3) then
  some (St.done (Ex.up false))
  else
  if I64 (v3 + 1) then
  some (St.next (v3 + 1))
  else none
  else none
  else none
  else
  some (St.done (Ex.go ()))) 0) fun x => x.then fun _ =>
  some true
def ground_Own (a0_g : Grd) : Option Grd :=
  Option.bind (slices_Clone_Byte a0_g.tiles) fun x3 =>
  some (⟨a0_g.w, a0_g.h, x3⟩ : Grd)
def throngref15_Room (a0_n : Int) : Option Bool :=
  some (decide ((1 ≤ a0_n) ∧ (a0_n ≤ 4096)))
end Go.Proofs.YthdbofgcckjopaaGreat
