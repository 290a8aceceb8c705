/-
  The statements of the cache and all that they call, as pure functions.
-/
import Derived.Test.YtacpdjccbadomaaRows
import Derived.Test.YtacpdjccbadomaaCI
import Derived.Test.YtacpdjccbadomaaCO
import Derived.Test.YtacpdjccbadomaaZC
import Derived.Test.YtacpdjccbadomaaVP
import Derived.Test.YtacpdjccbadomaaVQ
set_option linter.unusedVariables false
set_option linter.unusedSimpArgs false
set_option maxRecDepth 20000
set_option maxHeartbeats 1000000
namespace Go.Proofs.Ytacpdjccbadomaa
open Go.Vg
open Enc (R)
def throngref0_EqNumbers (a0_a : List Int) (a1_b : List Int) : Option Bool :=
  if ¬ (a0_a.length : Int) = (a1_b.length : Int) then
  some false
  else
  Option.bind (α := Ex (Unit) (Bool)) (loop (σ := Int) (β := Ex (Unit) (Bool)) (fun v3 =>
  if v3 < (a0_a.length : Int) then
  if 0 ≤ v3 ∧ v3 < (a0_a.length : Int) then
  if 0 ≤ v3 ∧ v3 < (a1_b.length : Int) then
  if ¬ (gi a0_a v3) = (gi a1_b v3) then
  some (St.done (Ex.up false))
  else
  if I64 (v3 + 1) then
  some (St.next (v3 + 1))
  else none
  else none
  else none
  else
  some (St.done (Ex.go ()))) 0) fun x => x.then fun _ =>
  some true
def throngref0_CopyNumbers (a0_l : List Int) : Option (List Int) :=
  Option.bind (α := List Int) (loop (σ := List Int × Int) (β := List Int) (fun (l4, v6) =>
  if v6 < (a0_l.length : Int) then
  if 0 ≤ v6 ∧ v6 < (a0_l.length : Int) then
  if l4.length < 1099511627776 then
  if I64 (v6 + 1) then
  some (St.next ((l4 ++ [(gi a0_l v6)]), (v6 + 1)))
  else none
  else none
  else none
  else
  some (St.done l4)) ([], 0)) fun v2 =>
  some v2
def throngref0_In (a0_l : List Int) (a1_n : Int) : Option Int :=
  Option.bind (α := Ex (Unit) (Int)) (loop (σ := Int) (β := Ex (Unit) (Int)) (fun v2 =>
  if v2 < (a0_l.length : Int) then
  if 0 ≤ v2 ∧ v2 < (a0_l.length : Int) then
  if (gi a0_l v2) = a1_n then
  some (St.done (Ex.up v2))
  else
  if I64 (v2 + 1) then
  some (St.next (v2 + 1))
  else none
  else none
  else
  some (St.done (Ex.go ()))) 0) fun x => x.then fun _ =>
  some (-1)
def thronglaw0_Numbers (a0_l : List Int) : Option Unit :=
  Option.bind (α := List Int) (loop (σ := Int × List Int) (β := List Int) (fun (v6, l7) =>
  if v6 < (a0_l.length : Int) then
  if 0 ≤ v6 ∧ v6 < (a0_l.length : Int) then
  if I64 (v6 + 1) then
  some (St.next ((v6 + 1), (si l7 v6 (-99))))
  else none
  else none
  else
  some (St.done l7)) (0, a0_l)) fun v2 =>
  if v2.length < 1099511627776 then
  some ()
  else none
def thronglaw0_Within (a0_i : Int) (a1_n : Int) : Option Int :=
  if 0 ≤ (a0_i % 18446744073709551616) ∧ (1 : Int) ≤ (a1_n % 18446744073709551616) then
  if I64 ((a0_i % 18446744073709551616) % (a1_n % 18446744073709551616)) then
  some ((a0_i % 18446744073709551616) % (a1_n % 18446744073709551616))
  else none
  else none
def slices_Index (a0_s : List Int) (a1_v : Int) : Option Int :=
  Option.bind (α := Ex (Unit) (Int)) (loop (σ := Int) (β := Ex (Unit) (Int)) (fun v2 =>
  if v2 < (a0_s.length : Int) then
  if 0 ≤ v2 ∧ v2 < (a0_s.length : Int) then
  if a1_v = (gi a0_s v2) then
  some (St.done (Ex.up v2))
  else
  if I64 (v2 + 1) then
  some (St.next (v2 + 1))
  else none
  else none
  else
  some (St.done (Ex.go ()))) 0) fun x => x.then fun _ =>
  some (-1)
def cache_New (a0_room : Int) : Option (Option Cach × Int) :=
  if (a0_room < 1) ∨ (4096 < a0_room) then
  some (none, 1)
  else
  some (some (⟨a0_room, mNil, ([] : List Int), 0, 0⟩ : Cach), 0)
def cache_Cache_out (a0_c : Cach) (a1_key : Int) : Option Cach :=
  Option.bind (slices_Index a0_c.keys a1_key) fun x3 =>
  if 0 ≤ x3 then
  if I64 (x3 + 1) then
  Option.bind (slices_Delete a0_c.keys x3 (x3 + 1)) fun x6 =>
  some (⟨a0_c.room, a0_c.vals, x6, a0_c.hits, a0_c.misses⟩ : Cach)
  else none
  else
  some a0_c
def cache_Cache_use (a0_c : Cach) (a1_key : Int) : Option Cach :=
  Option.bind (cache_Cache_out a0_c a1_key) fun x3 =>
  Option.bind (slices_Insert x3.keys 0 [a1_key]) fun x7 =>
  some (⟨x3.room, x3.vals, x7, x3.hits, x3.misses⟩ : Cach)
def cache_Cache_Put (a0_c : Cach) (a1_key : Int) (a2_val : Int) : Option Cach :=
  Option.bind (cache_Cache_use (⟨a0_c.room, (mPut a0_c.vals a1_key a2_val), a0_c.keys, a0_c.hits, a0_c.misses⟩ : Cach) a1_key) fun x3 =>
  if x3.room < (x3.keys.length : Int) then
  if I64 ((x3.keys.length : Int) - 1) then
  if 0 ≤ ((x3.keys.length : Int) - 1) ∧ ((x3.keys.length : Int) - 1) < (x3.keys.length : Int) then
  if I64 ((x3.keys.length : Int) - 1) then
  if 0 ≤ ((x3.keys.length : Int) - 1) ∧ ((x3.keys.length : Int) - 1) ≤ (x3.keys.length : Int) then
  some (⟨x3.room, (mDel x3.vals (gi x3.keys ((x3.keys.length : Int) - 1))), (x3.keys.take ((x3.keys.length : Int) - 1).toNat), x3.hits, x3.misses⟩ : Cach)
  else none
  else none
  else none
  else none
  else
  some x3
def cache_Cache_Get (a0_c : Cach) (a1_key : Int) : Option (Int × Bool × Cach) :=
  if (!((a0_c.vals a1_key).isSome)) = true then
  if I64 (a0_c.misses + 1) then
  some (0, false, (⟨a0_c.room, a0_c.vals, a0_c.keys, a0_c.hits, (a0_c.misses + 1)⟩ : Cach))
  else none
  else
  if I64 (a0_c.hits + 1) then
  Option.bind (cache_Cache_use (⟨a0_c.room, a0_c.vals, a0_c.keys, (a0_c.hits + 1), a0_c.misses⟩ : Cach) a1_key) fun x6 =>
  some (((a0_c.vals a1_key).getD 0), true, x6)
  else none
def cache_Cache_Drop (a0_c : Cach) (a1_key : Int) : Option (Bool × Cach) :=
  Option.bind (cache_Cache_out (⟨a0_c.room, (mDel a0_c.vals a1_key), a0_c.keys, a0_c.hits, a0_c.misses⟩ : Cach) a1_key) fun x3 =>
  some ((a0_c.vals a1_key).isSome, x3)
def cache_Cache_Clear (a0_c : Cach) : Option Cach :=
  some (⟨a0_c.room, mNil, [], a0_c.hits, a0_c.misses⟩ : Cach)
def cache_Cache_Keys (a0_c : Cach) : Option (List Int) :=
  Option.bind (slices_Clone_Int a0_c.keys) fun x3 =>
  some x3
def cache_Cache_Hits (a0_c : Cach) : Option Int :=
  some a0_c.hits
def cache_Cache_Misses (a0_c : Cach) : Option Int :=
  some a0_c.misses
def throngref15_Room (a0_n : Int) : Option Bool :=
  some (decide ((1 ≤ a0_n) ∧ (a0_n ≤ 4096)))
def throngref15_Cache_drop (a0_c : CRef) (a1_i : Int) : Option CRef :=
  if 0 ≤ a1_i ∧ a1_i ≤ (a0_c.k.length : Int) then
  if 0 ≤ a1_i ∧ a1_i ≤ (a0_c.v.length : Int) then
  Option.bind (throngref0_CopyNumbers (a0_c.k.take a1_i.toNat)) fun x7 =>
  Option.bind (throngref0_CopyNumbers (a0_c.v.take a1_i.toNat)) fun x9 =>
  if I64 (a1_i + 1) then
  if 0 ≤ (a1_i + 1) ∧ (a1_i + 1) ≤ (a0_c.k.length : Int) then
  if x7.length + (a0_c.k.drop (a1_i + 1).toNat).length < 1099511627776 then
  if I64 (a1_i + 1) then
  if 0 ≤ (a1_i + 1) ∧ (a1_i + 1) ≤ (a0_c.v.length : Int) then
  if x9.length + (a0_c.v.drop (a1_i + 1).toNat).length < 1099511627776 then
  some (⟨a0_c.room, a0_c.hits, a0_c.misses, (x7 ++ (a0_c.k.drop (a1_i + 1).toNat)), (x9 ++ (a0_c.v.drop (a1_i + 1).toNat))⟩ : CRef)
  else none
  else none
  else none
  else none
  else none
  else none
  else none
  else none
def throngref15_Cache_Drop (a0_c : CRef) (a1_key : Int) : Option (Bool × CRef) :=
  Option.bind (throngref0_In a0_c.k a1_key) fun x3 =>
  if 0 ≤ x3 then
  Option.bind (throngref15_Cache_drop a0_c x3) fun x5 =>
  some (decide (0 ≤ x3), x5)
  else
  some (decide (0 ≤ x3), a0_c)
def throngref15_Cache_Put (a0_c : CRef) (a1_key : Int) (a2_val : Int) : Option CRef :=
  Option.bind (throngref15_Cache_Drop a0_c a1_key) fun x3 =>
  if [a1_key].length + x3.2.k.length < 1099511627776 then
  if [a2_val].length + x3.2.v.length < 1099511627776 then
  if x3.2.room < (([a1_key] ++ x3.2.k).length : Int) then
  if I64 ((([a1_key] ++ x3.2.k).length : Int) - 1) then
  Option.bind (throngref15_Cache_drop (⟨x3.2.room, x3.2.hits, x3.2.misses, ([a1_key] ++ x3.2.k), ([a2_val] ++ x3.2.v)⟩ : CRef) ((([a1_key] ++ x3.2.k).length : Int) - 1)) fun x14 =>
  some x14
  else none
  else
  some (⟨x3.2.room, x3.2.hits, x3.2.misses, ([a1_key] ++ x3.2.k), ([a2_val] ++ x3.2.v)⟩ : CRef)
  else none
  else none
def throngref15_Cache_Get (a0_c : CRef) (a1_key : Int) : Option (Int × Bool × CRef) :=
  Option.bind (throngref0_In a0_c.k a1_key) fun x3 =>
  if x3 < 0 then
  if I64 (a0_c.misses + 1) then
  some (0, false, (⟨a0_c.room, a0_c.hits, (a0_c.misses + 1), a0_c.k, a0_c.v⟩ : CRef))
  else none
  else
  if I64 (a0_c.hits + 1) then
  if 0 ≤ x3 ∧ x3 < (a0_c.v.length : Int) then
  Option.bind (throngref15_Cache_Put (⟨a0_c.room, (a0_c.hits + 1), a0_c.misses, a0_c.k, a0_c.v⟩ : CRef) a1_key (gi a0_c.v x3)) fun x10 =>
  some ((gi a0_c.v x3), true, x10)
  else none
  else none
def thronglaw15_num (a0_e : Int) : Option Int :=
  some a0_e
def thronglaw15_wakes : Option Bool :=
  Option.bind (cache_New 1) fun (o2, o3) =>
  Option.bind (thronglaw15_num o3) fun x5 =>
  if (¬ x5 = 0) ∨ (o2.isNone = true) then
  some false
  else
  Option.bind o2 fun z9 =>
  Option.bind (cache_Cache_Put z9 1 5) fun x10 =>
  Option.bind (cache_Cache_Put x10 2 6) fun x11 =>
  Option.bind (cache_Cache_Get x11 1) fun x12 =>
  Option.bind (cache_Cache_Get x12.2.2 2) fun x13 =>
  Option.bind (if (((!x12.2.1) = true) ∧ (x13.2.1 = true)) ∧ (x13.1 = 6) then
  Option.bind (cache_Cache_Hits x13.2.2) fun x27 =>
  some (decide (x27 = 1))
  else
  some false) fun b20 =>
  Option.bind (if b20 = true then
  Option.bind (cache_Cache_Misses x13.2.2) fun x25 =>
  some (decide (x25 = 1))
  else
  some false) fun b23 =>
  some b23
def thronglaw15_CacheExact (a0_p : CScr) : Option Bool :=
  Option.bind (cache_New a0_p.room) fun (o3, o4) =>
  Option.bind (throngref15_Room a0_p.room) fun x6 =>
  Option.bind (thronglaw15_num o4) fun x7 =>
  Option.bind (if ¬ x6 = (decide (x7 = 0)) then
  some true
  else
  Option.bind (thronglaw15_num o4) fun x105 =>
  some (decide (¬ o3.isNone = (decide (¬ x105 = 0))))) fun b10 =>
  Option.bind (if b10 = true then
  some true
  else
  Option.bind (thronglaw15_num o4) fun x98 =>
  Option.bind (if ¬ x98 = 0 then
  Option.bind (thronglaw15_num o4) fun x103 =>
  some (decide (¬ x103 = 1))
  else
  some false) fun b101 =>
  some b101) fun b13 =>
  if b13 = true then
  some false
  else
  if o3.isNone = true then
  Option.bind (thronglaw15_wakes) fun x16 =>
  some x16
  else
  Option.bind o3 fun z17 =>
  Option.bind (α := Ex (Cach × Int × Int × Int × List Int × List Int) (Bool)) (loop (σ := Int × Int × Int × Int × Cach × List Int × List Int) (β := Ex (Cach × Int × Int × Int × List Int × List Int) (Bool)) (fun (v29, v30, v31, v32, v33, l34, l36) =>
  if (v29 < (a0_p.l.length : Int)) ∧ (v29 < 80) then
  if 0 ≤ v29 ∧ v29 < (a0_p.l.length : Int) then
  Option.bind (thronglaw0_Within ((gi a0_p.l v29).act) 10) fun x46 =>
  Option.bind (α := Ex (Cach × Int × Int × Int × List Int × List Int) (St (Int × Int × Int × Int × Cach × List Int × List Int) (Ex (Cach × Int × Int × Int × List Int × List Int) (Bool)))) (Option.bind (α := Bool) (if x46 = 4 then
  some (decide (x46 = 4))
  else
  if x46 = 5 then
  some (decide (x46 = 5))
  else
  if x46 = 6 then
  some (decide (x46 = 6))
  else
  some (decide (x46 = 7))) fun v73 =>
  if v73 = true then
  Option.bind (cache_Cache_Get v33 ((gi a0_p.l v29).key)) fun x75 =>
  Option.bind (throngref15_Cache_Get (⟨v30, v31, v32, l34, l36⟩ : CRef) ((gi a0_p.l v29).key)) fun x76 =>
  if (¬ x75.1 = x76.1) ∨ (¬ x75.2.1 = x76.2.1) then
  some (Ex.up (St.done (Ex.up false)))
  else
  some (Ex.go (x75.2.2, x76.2.2.room, x76.2.2.hits, x76.2.2.misses, x76.2.2.k, x76.2.2.v))
  else
  if x46 = 8 then
  Option.bind (cache_Cache_Drop v33 ((gi a0_p.l v29).key)) fun x83 =>
  Option.bind (throngref15_Cache_Drop (⟨v30, v31, v32, l34, l36⟩ : CRef) ((gi a0_p.l v29).key)) fun x84 =>
  if ¬ x83.1 = x84.1 then
  some (Ex.up (St.done (Ex.up false)))
  else
  some (Ex.go (x83.2, x84.2.room, x84.2.hits, x84.2.misses, x84.2.k, x84.2.v))
  else
  if x46 = 9 then
  Option.bind (cache_Cache_Clear v33) fun x89 =>
  some (Ex.go (x89, v30, v31, v32, [], []))
  else
  Option.bind (cache_Cache_Put v33 ((gi a0_p.l v29).key) ((gi a0_p.l v29).val)) fun x90 =>
  Option.bind (throngref15_Cache_Put (⟨v30, v31, v32, l34, l36⟩ : CRef) ((gi a0_p.l v29).key) ((gi a0_p.l v29).val)) fun x91 =>
  some (Ex.go (x90, x91.room, x91.hits, x91.misses, x91.k, x91.v))) fun x => x.then fun (v48, v49, v50, v51, v52, v54) =>
  Option.bind (cache_Cache_Keys v48) fun x56 =>
  Option.bind (throngref0_EqNumbers x56 v52) fun x58 =>
  Option.bind (if (!x58) = true then
  some true
  else
  Option.bind (cache_Cache_Hits v48) fun x71 =>
  some (decide (¬ x71 = v50))) fun b61 =>
  Option.bind (if b61 = true then
  some true
  else
  Option.bind (cache_Cache_Misses v48) fun x69 =>
  some (decide (¬ x69 = v51))) fun b64 =>
  if b64 = true then
  some (St.done (Ex.up false))
  else
  Option.bind (thronglaw0_Numbers x56) fun x66 =>
  if I64 (v29 + 1) then
  some (St.next ((v29 + 1), v49, v50, v51, v48, v52, v54))
  else none
  else none
  else
  some (St.done (Ex.go (v33, v30, v31, v32, l34, l36)))) (0, a0_p.room, 0, 0, z17, ([] : List Int), ([] : List Int))) fun x => x.then fun (v20, v21, v22, v23, v24, v26) =>
  Option.bind (thronglaw15_wakes) fun x28 =>
  some x28
def thronglaw15_CacheHolds (a0_p : CScr) : Option Bool :=
  Option.bind (thronglaw0_Within a0_p.room 20) fun x2 =>
  if I64 (1 + x2) then
  Option.bind (cache_New (1 + x2)) fun (o5, o6) =>
  Option.bind (cache_New 81) fun (o9, o10) =>
  Option.bind (thronglaw15_num o6) fun x12 =>
  Option.bind (if ¬ x12 = 0 then
  some true
  else
  Option.bind (thronglaw15_num o10) fun x307 =>
  some (decide (¬ x307 = 0))) fun b15 =>
  if ((b15 = true) ∨ (o5.isNone = true)) ∨ (o9.isNone = true) then
  some false
  else
  Option.bind o5 fun z21 =>
  Option.bind o9 fun z22 =>
  Option.bind (α := Ex (Cach × Cach) (Bool)) (loop (σ := List Int × List Int × Int × Cach × Cach) (β := Ex (Cach × Cach) (Bool)) (fun (l27, l29, v31, v32, v33) =>
  if (v31 < (a0_p.l.length : Int)) ∧ (v31 < 80) then
  if 0 ≤ v31 ∧ v31 < (a0_p.l.length : Int) then
  Option.bind (throngref0_In l27 ((gi a0_p.l v31).key)) fun x42 =>
  Option.bind (thronglaw0_Within ((gi a0_p.l v31).act) 2) fun x43 =>
  if x43 = 0 then
  Option.bind (cache_Cache_Put v32 ((gi a0_p.l v31).key) ((gi a0_p.l v31).val)) fun x45 =>
  Option.bind (cache_Cache_Put v33 ((gi a0_p.l v31).key) ((gi a0_p.l v31).val)) fun x46 =>
  Option.bind (α := List Int × List Int) (if x42 < 0 then
  if l27.length < 1099511627776 then
  if l29.length < 1099511627776 then
  some ((l27 ++ [(gi a0_p.l v31).key]), (l29 ++ [(gi a0_p.l v31).val]))
  else none
  else none
  else
  if 0 ≤ x42 ∧ x42 < (l29.length : Int) then
  some (l27, (si l29 x42 ((gi a0_p.l v31).val)))
  else none) fun (v48, v50) =>
  Option.bind (cache_Cache_Keys x45) fun x52 =>
  if ¬ ((x52.length : Int) = 0) → (0 ≤ (0 : Int) ∧ (0 : Int) < (x52.length : Int)) then
  Option.bind (if ((x52.length : Int) = 0) ∨ (¬ (gi x52 (0 : Int)) = (gi a0_p.l v31).key) then
  some true
  else
  Option.bind (thronglaw0_Within a0_p.room 20) fun x66 =>
  if I64 (1 + x66) then
  some (decide ((1 + x66) < (x52.length : Int)))
  else none) fun b59 =>
  if b59 = true then
  some (St.done (Ex.up false))
  else
  Option.bind (cache_Cache_Keys x46) fun x61 =>
  if ¬ (x61.length : Int) = (v48.length : Int) then
  some (St.done (Ex.up false))
  else
  if I64 (v31 + 1) then
  some (St.next (v48, v50, (v31 + 1), x45, x46))
  else none
  else none
  else
  Option.bind (cache_Cache_Get v32 ((gi a0_p.l v31).key)) fun x286 =>
  Option.bind (cache_Cache_Get v33 ((gi a0_p.l v31).key)) fun x287 =>
  if (x286.2.1 = true) → (¬ (x42 < 0) → (0 ≤ x42 ∧ x42 < (l29.length : Int))) then
  if ¬ (((x286.2.1 = true) ∧ ((x42 < 0) ∨ (¬ x286.1 = (gi l29 x42)))) ∨ (¬ x287.2.1 = (decide (0 ≤ x42)))) → ((x287.2.1 = true) → (0 ≤ x42 ∧ x42 < (l29.length : Int))) then
  if (((x286.2.1 = true) ∧ ((x42 < 0) ∨ (¬ x286.1 = (gi l29 x42)))) ∨ (¬ x287.2.1 = (decide (0 ≤ x42)))) ∨ ((x287.2.1 = true) ∧ (¬ x287.1 = (gi l29 x42))) then
  some (St.done (Ex.up false))
  else
  if I64 (v31 + 1) then
  some (St.next (l27, l29, (v31 + 1), x286.2.2, x287.2.2))
  else none
  else none
  else none
  else none
  else
  some (St.done (Ex.go (v32, v33)))) ([], [], 0, z21, z22)) fun x => x.then fun (v24, v25) =>
  Option.bind (thronglaw15_wakes) fun x26 =>
  some x26
  else none
def thronglaw15_CacheOrder (a0_p : CScr) : Option Bool :=
  if 0 ≤ (a0_p.l.length : Int) ∧ (a0_p.l.length : Int) ≤ 9223372036854775807 then
  if I64 (1 + ((a0_p.l.length : Int) % 5)) then
  Option.bind (cache_New (1 + ((a0_p.l.length : Int) % 5))) fun (o5, o6) =>
  Option.bind (thronglaw15_num o6) fun x8 =>
  if (¬ x8 = 0) ∨ (o5.isNone = true) then
  some false
  else
  Option.bind o5 fun z12 =>
  Option.bind (α := Ex (Cach) (Bool)) (loop (σ := Int × Cach) (β := Ex (Cach) (Bool)) (fun (v69, v70) =>
  if v69 < 20 then
  if I64 (10 * v69) then
  Option.bind (cache_Cache_Put v70 v69 (10 * v69)) fun x74 =>
  Option.bind (cache_Cache_Keys x74) fun x75 =>
  if I64 (v69 + 1) then
  if ¬ (x75.length : Int) = (min (v69 + 1) (1 + ((a0_p.l.length : Int) % 5))) then
  some (St.done (Ex.up false))
  else
  Option.bind (α := Ex (Unit) (St (Int × Cach) (Ex (Cach) (Bool)))) (loop (σ := Int) (β := Ex (Unit) (St (Int × Cach) (Ex (Cach) (Bool)))) (fun v81 =>
  if v81 < (x75.length : Int) then
  if 0 ≤ v81 ∧ v81 < (x75.length : Int) then
  if I64 (v69 - v81) then
  if ¬ (gi x75 v81) = (v69 - v81) then
  some (St.done (Ex.up (St.done (Ex.up false))))
  else
  if I64 (v81 + 1) then
  some (St.next (v81 + 1))
  else none
  else none
  else none
  else
  some (St.done (Ex.go ()))) 0) fun x => x.then fun _ =>
  if I64 (v69 + 1) then
  some (St.next ((v69 + 1), x74))
  else none
  else none
  else none
  else
  some (St.done (Ex.go v70))) (0, z12)) fun x => x.then fun v14 =>
  if I64 (20 - (1 + ((a0_p.l.length : Int) % 5))) then
  Option.bind (cache_Cache_Get v14 (20 - (1 + ((a0_p.l.length : Int) % 5)))) fun x16 =>
  if ¬ ((!x16.2.1) = true) → (I64 (20 - (1 + ((a0_p.l.length : Int) % 5)))) then
  if ¬ ((!x16.2.1) = true) → (I64 (10 * (20 - (1 + ((a0_p.l.length : Int) % 5))))) then
  Option.bind (if ((!x16.2.1) = true) ∨ (¬ x16.1 = (10 * (20 - (1 + ((a0_p.l.length : Int) % 5))))) then
  some true
  else
  Option.bind (cache_Cache_Keys x16.2.2) fun x67 =>
  some (decide ((x67.length : Int) = 0))) fun b23 =>
  Option.bind (if b23 = true then
  some true
  else
  Option.bind (cache_Cache_Keys x16.2.2) fun x60 =>
  if 0 ≤ (0 : Int) ∧ (0 : Int) < (x60.length : Int) then
  if I64 (20 - (1 + ((a0_p.l.length : Int) % 5))) then
  some (decide (¬ (gi x60 (0 : Int)) = (20 - (1 + ((a0_p.l.length : Int) % 5)))))
  else none
  else none) fun b26 =>
  if b26 = true then
  some false
  else
  Option.bind (cache_Cache_Put x16.2.2 99 1) fun x28 =>
  if I64 (20 - (1 + ((a0_p.l.length : Int) % 5))) then
  Option.bind (cache_Cache_Get x28 (20 - (1 + ((a0_p.l.length : Int) % 5)))) fun x30 =>
  if ((1 < (1 + ((a0_p.l.length : Int) % 5))) ∧ ((!x30.2.1) = true)) ∨ (((1 + ((a0_p.l.length : Int) % 5)) = 1) ∧ (x30.2.1 = true)) then
  some false
  else
  Option.bind (cache_Cache_Put x30.2.2 99 2) fun x36 =>
  Option.bind (cache_Cache_Get x36 99) fun x37 =>
  Option.bind (if ¬ x37.1 = 2 then
  some true
  else
  Option.bind (cache_Cache_Keys x37.2.2) fun x55 =>
  some (decide (¬ (x55.length : Int) = (1 + ((a0_p.l.length : Int) % 5))))) fun b40 =>
  if b40 = true then
  some false
  else
  Option.bind (cache_Cache_Drop x37.2.2 99) fun x42 =>
  if (!x42.1) = true then
  some false
  else
  Option.bind (cache_Cache_Drop x42.2 99) fun x44 =>
  if x44.1 = true then
  some false
  else
  Option.bind (cache_Cache_Clear x44.2) fun x46 =>
  Option.bind (cache_Cache_Keys x46) fun x47 =>
  Option.bind (if (x47.length : Int) = 0 then
  Option.bind (thronglaw15_wakes) fun x53 =>
  some x53
  else
  some false) fun b51 =>
  some b51
  else none
  else none
  else none
  else none
  else none
  else none
end Go.Proofs.Ytacpdjccbadomaa
