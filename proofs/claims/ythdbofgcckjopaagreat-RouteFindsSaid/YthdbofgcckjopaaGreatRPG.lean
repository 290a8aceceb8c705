/-
  What the page says of routes, as pure functions.
-/
import Derived.Test.YthdbofgcckjopaaGreatRows
import Derived.Test.YthdbofgcckjopaaGreatRPO
import Derived.Test.YthdbofgcckjopaaGreatRG
import Derived.Test.YthdbofgcckjopaaGreatW3
set_option linter.unusedVariables false
set_option linter.unusedSimpArgs false
set_option maxRecDepth 20000
set_option maxHeartbeats 4000000
namespace Go.Proofs.YthdbofgcckjopaaGreat
open Go.Vg
open Enc (R)
def throngref0_CopyPortals (a0_l:List Prt):Option (List Prt) :=
  Option.bind (α:=List Prt) (loop (σ:=List Prt × Int) (β:=List Prt) (fun (l4,v6) =>
  if v6 < (a0_l.length:Int) then
  if 0 ≤ v6∧v6 < (a0_l.length:Int) then
  if l4.length < 1099511627776 then
  if I64 (v6 + 1) then
  some (St.next ((l4 ++ [(gi a0_l v6)]),(v6 + 1)))
  else none
  else none
  else none
  else
  some (St.done l4)) ([],0)) fun v2 =>
  some v2
def throngref10_pair (a0_w:Int) (a1_h:Int) (a2_free:List Bool) (a3_t:Int) (a4_down:Bool):Option (Int × Bool) :=
  if I64 (a3_t + 1) then
  Option.bind (α:=Ex (Int) (Int × Bool)) (if a4_down = true then
  if I64 (a3_t + a0_w) then
  if 0 ≤ a3_t∧a3_t ≤ 9223372036854775807∧(1:Int) ≤ a0_w then
  if I64 (a1_h - 1) then
  if (a3_t / a0_w) = (a1_h - 1) then
  some (Ex.up (0,false))
  else
  some (Ex.go (a3_t + a0_w))
  else none
  else none
  else none
  else
  if 0 ≤ a3_t∧a3_t ≤ 9223372036854775807∧(1:Int) ≤ a0_w then
  if I64 (a0_w - 1) then
  if (a3_t % a0_w) = (a0_w - 1) then
  some (Ex.up (0,false))
  else
  some (Ex.go (a3_t + 1))
  else none
  else none) fun x=>x.then fun v3 =>
  if 0 ≤ a3_t∧a3_t < (a2_free.length:Int) then
  if ((gi a2_free a3_t) = true)→(0 ≤ v3∧v3 < (a2_free.length:Int)) then
  Option.bind (if ((gi a2_free a3_t) = true)∧((gi a2_free v3) = true) then
  Option.bind (throngref10_Of a0_w a3_t) fun x14 =>
  Option.bind (throngref10_Of a0_w v3) fun x15 =>
  some (decide (¬ x14 = x15))
  else
  some false) fun b12 =>
  some (v3,b12)
  else none
  else none
  else none
def throngref10_with (a0_l:List Prt) (a1_p:Prt):Option (List Prt) :=
  Option.bind (α:=Int) (loop (σ:=Int) (β:=Int) (fun v217 =>
  if (v217 < (a0_l.length:Int))→(0 ≤ v217∧v217 < (a0_l.length:Int)) then
  if (v217 < (a0_l.length:Int))→(¬ ((gi a0_l v217).a < a1_p.a)→(0 ≤ v217∧v217 < (a0_l.length:Int))) then
  if (v217 < (a0_l.length:Int))→(¬ ((gi a0_l v217).a < a1_p.a)→(((gi a0_l v217).a = a1_p.a)→(0 ≤ v217∧v217 < (a0_l.length:Int)))) then
  if (v217 < (a0_l.length:Int))∧(((gi a0_l v217).a < a1_p.a) ∨ (((gi a0_l v217).a = a1_p.a)∧((gi a0_l v217).b < a1_p.b))) then
  if I64 (v217 + 1) then
  some (St.next (v217 + 1))
  else none
  else
  some (St.done v217)
  else none
  else none
  else none) 0) fun v3 =>
  Option.bind (α:=List Prt) (if 0 ≤ v3∧v3 ≤ (a0_l.length:Int) then
  Option.bind (throngref0_CopyPortals (a0_l.take v3.toNat)) fun x11 =>
  if x11.length < 1099511627776 then
  some (x11 ++ [a1_p])
  else none
  else none) fun v5 =>
  if 0 ≤ v3∧v3 ≤ (a0_l.length:Int) then
  if v5.length + (a0_l.drop v3.toNat).length < 1099511627776 then
  some (v5 ++ (a0_l.drop v3.toNat))
  else none
  else none
def throngref10_Find (a0_w:Int) (a1_h:Int) (a2_free:List Bool):Option (List Prt) :=
  Option.bind (α:=List Prt) (loop (σ:=List Prt × Int) (β:=List Prt) (fun (l4,v6) =>
  if v6 < 2 then
  Option.bind (α:=Int) (if v6 = 1 then
  some 1
  else
  some a0_w) fun v10 =>
  Option.bind (α:=List Prt) (loop (σ:=Int × List Prt) (β:=List Prt) (fun (v15,l16) =>
  if I64 (a0_w * a1_h) then
  if v15 < (a0_w * a1_h) then
  Option.bind (α:=List Prt) (Option.bind (throngref10_pair a0_w a1_h a2_free v15 (decide (v6 = 1))) fun x25 =>
  if (!x25.2) = true then
  some l16
  else
  if I64 (v15 - v10) then
  if (0 ≤ (v15 - v10))→(¬ (¬ (v6 = 1))→(0 ≤ v15∧v15 ≤ 9223372036854775807∧(1:Int) ≤ a0_w)) then
  Option.bind (α:=Ex (Unit) (List Prt)) (if (0 ≤ (v15 - v10))∧((¬ (v6 = 1)) ∨ (0 < (v15 % a0_w))) then
  if I64 (v15 - v10) then
  Option.bind (throngref10_pair a0_w a1_h a2_free (v15 - v10) (decide (v6 = 1))) fun x70 =>
  Option.bind (if x70.2 = true then
  if I64 (v15 - v10) then
  Option.bind (throngref10_Of a0_w (v15 - v10)) fun x83 =>
  Option.bind (throngref10_Of a0_w v15) fun x84 =>
  some (decide (x83 = x84))
  else none
  else
  some false) fun b73 =>
  Option.bind (if b73 = true then
  Option.bind (throngref10_Of a0_w x70.1) fun x79 =>
  Option.bind (throngref10_Of a0_w x25.1) fun x80 =>
  some (decide (x79 = x80))
  else
  some false) fun b76 =>
  if b76 = true then
  some (Ex.up l16)
  else
  some (Ex.go ())
  else none
  else
  some (Ex.go ())) fun x=>x.then fun _ =>
  Option.bind (α:=Int) (loop (σ:=Int) (β:=Int) (fun v41 =>
  if I64 (v41 * v10) then
  if I64 (v15 + (v41 * v10)) then
  if I64 (a0_w * a1_h) then
  if ¬ ((a0_w * a1_h) ≤ (v15 + (v41 * v10)))→((v6 = 1)→(0 ≤ (v15 + (v41 * v10))∧(v15 + (v41 * v10)) ≤ 9223372036854775807∧(1:Int) ≤ a0_w)) then
  if ¬ ((a0_w * a1_h) ≤ (v15 + (v41 * v10)))→((v6 = 1)→(0 ≤ v15∧v15 ≤ 9223372036854775807∧(1:Int) ≤ a0_w)) then
  if ((a0_w * a1_h) ≤ (v15 + (v41 * v10))) ∨ ((v6 = 1)∧(¬ ((v15 + (v41 * v10)) / a0_w) = (v15 / a0_w))) then
  some (St.done v41)
  else
  Option.bind (throngref10_pair a0_w a1_h a2_free (v15 + (v41 * v10)) (decide (v6 = 1))) fun x51 =>
  Option.bind (if (!x51.2) = true then
  some true
  else
  Option.bind (throngref10_Of a0_w (v15 + (v41 * v10))) fun x64 =>
  Option.bind (throngref10_Of a0_w v15) fun x65 =>
  some (decide (¬ x64 = x65))) fun b54 =>
  Option.bind (if b54 = true then
  some true
  else
  Option.bind (throngref10_Of a0_w x51.1) fun x61 =>
  Option.bind (throngref10_Of a0_w x25.1) fun x62 =>
  some (decide (¬ x61 = x62))) fun b57 =>
  if b57 = true then
  some (St.done v41)
  else
  if I64 (v41 + 1) then
  some (St.next (v41 + 1))
  else none
  else none
  else none
  else none
  else none
  else none) 1) fun v33 =>
  if I64 (v33 - 1) then
  if 0 ≤ (v33 - 1)∧(v33 - 1) ≤ 9223372036854775807 then
  if I64 (((v33 - 1) / 2) * v10) then
  if I64 (v15 + (((v33 - 1) / 2) * v10)) then
  if I64 (x25.1 + (((v33 - 1) / 2) * v10)) then
  Option.bind (throngref10_with l16 (⟨(v15 + (((v33 - 1) / 2) * v10)),(x25.1 + (((v33 - 1) / 2) * v10)),v33⟩:Prt)) fun x39 =>
  some x39
  else none
  else none
  else none
  else none
  else none
  else none
  else none) fun v22 =>
  if I64 (v15 + 1) then
  some (St.next ((v15 + 1),v22))
  else none
  else
  some (St.done l16)
  else none) (0,l4)) fun v12 =>
  if I64 (v6 + 1) then
  some (St.next (v12,(v6 + 1)))
  else none
  else
  some (St.done l4)) ([],0)) fun v2 =>
  some v2
def throngref13_ends (a0_ps:List Prt):Option (List Int) :=
  Option.bind (α:=List Int) (loop (σ:=List Int × Int) (β:=List Int) (fun (l4,v6) =>
  if v6 < (a0_ps.length:Int) then
  if 0 ≤ v6∧v6 < (a0_ps.length:Int) then
  if 0 ≤ v6∧v6 < (a0_ps.length:Int) then
  if l4.length + [(gi a0_ps v6).a,(gi a0_ps v6).b].length < 1099511627776 then
  if I64 (v6 + 1) then
  some (St.next ((l4 ++ [(gi a0_ps v6).a,(gi a0_ps v6).b]),(v6 + 1)))
  else none
  else none
  else none
  else none
  else
  some (St.done l4)) ([],0)) fun v2 =>
  some v2
def throngref13_better (a0_a:PWay) (a1_b:PWay):Option Bool :=
  if (a0_a.no = true) ∨ (a1_b.no = true) then
  some (decide (((!a0_a.no) = true)∧(a1_b.no = true)))
  else
  some (decide ((a0_a.cost < a1_b.cost) ∨ ((a0_a.cost = a1_b.cost)∧(a0_a.count < a1_b.count))))
def throngref13_over (a0_g:Grd) (a1_class:Int) (a2_ps:List Prt) (a3_from:List Int) (a4_end:List Int) (a5_best:List PWay) (a6_k:Int):Option PWay :=
  if 0 ≤ a6_k∧a6_k ≤ 9223372036854775807 then
  if 0 ≤ (a6_k + 1 - 2 * (a6_k % 2))∧(a6_k + 1 - 2 * (a6_k % 2)) < (a5_best.length:Int) then
  if 0 ≤ a6_k∧a6_k < (a4_end.length:Int) then
  if 0 ≤ (gi a4_end a6_k)∧(gi a4_end a6_k) < (a3_from.length:Int) then
  if ((gi a3_from (gi a4_end a6_k)) < 0) ∨ (((gi a5_best (a6_k + 1 - 2 * (a6_k % 2))).no) = true) then
  some (⟨0,0,true⟩:PWay)
  else
  if 0 ≤ a6_k∧a6_k < (a4_end.length:Int) then
  if 0 ≤ (gi a4_end a6_k)∧(gi a4_end a6_k) < (a0_g.tiles.length:Int) then
  Option.bind (throngref5_Cost a1_class ((gi a0_g.tiles (gi a4_end a6_k)).toNat:Int)) fun x21 =>
  if 0 ≤ a6_k∧a6_k ≤ 9223372036854775807 then
  if 0 ≤ (a6_k + 1 - 2 * (a6_k % 2))∧(a6_k + 1 - 2 * (a6_k % 2)) < (a4_end.length:Int) then
  if 0 ≤ (gi a4_end (a6_k + 1 - 2 * (a6_k % 2)))∧(gi a4_end (a6_k + 1 - 2 * (a6_k % 2))) < (a0_g.tiles.length:Int) then
  Option.bind (throngref5_Cost a1_class ((gi a0_g.tiles (gi a4_end (a6_k + 1 - 2 * (a6_k % 2)))).toNat:Int)) fun x25 =>
  if I64 (x21 + x25) then
  if I64 (5 * (x21 + x25)) then
  if 0 ≤ a6_k∧a6_k < (a4_end.length:Int) then
  if 0 ≤ (gi a4_end a6_k)∧(gi a4_end a6_k) < (a3_from.length:Int) then
  if I64 ((gi a3_from (gi a4_end a6_k)) + (5 * (x21 + x25))) then
  if I64 (((gi a3_from (gi a4_end a6_k)) + (5 * (x21 + x25))) + ((gi a5_best (a6_k + 1 - 2 * (a6_k % 2))).cost)) then
  if I64 (((gi a5_best (a6_k + 1 - 2 * (a6_k % 2))).count) + 1) then
  some (⟨(((gi a3_from (gi a4_end a6_k)) + (5 * (x21 + x25))) + ((gi a5_best (a6_k + 1 - 2 * (a6_k % 2))).cost)),(((gi a5_best (a6_k + 1 - 2 * (a6_k % 2))).count) + 1),false⟩:PWay)
  else none
  else none
  else none
  else none
  else none
  else none
  else none
  else none
  else none
  else none
  else none
  else none
  else none
  else none
  else none
  else none
def throngref13_Route (a0_g:Grd) (a1_l:List Bld) (a2_class:Int) (a3_size:Int) (a4_start:Int) (a5_goal:Int):Option (Rte × Bool) :=
  Option.bind (throngref13_Good a0_g a1_l a2_class a3_size) fun x3 =>
  if 0 ≤ a4_start∧a4_start < (x3.length:Int) then
  if ¬ ((!(gi x3 a4_start)) = true)→(0 ≤ a5_goal∧a5_goal < (x3.length:Int)) then
  if ((!(gi x3 a4_start)) = true) ∨ ((!(gi x3 a5_goal)) = true) then
  some ((⟨0,[],[]⟩:Rte),false)
  else
  Option.bind (throngref10_Find a0_g.w a0_g.h x3) fun x12 =>
  Option.bind (throngref13_ends x12) fun x14 =>
  Option.bind (α:=List (List Int)) (loop (σ:=Int × List (List Int)) (β:=List (List Int)) (fun (v392,l394) =>
  if v392 < (x14.length:Int) then
  if 0 ≤ v392∧v392 < (x14.length:Int) then
  if 0 ≤ v392∧v392 < (x14.length:Int) then
  Option.bind (throngref10_Of a0_g.w (gi x14 v392)) fun x402 =>
  Option.bind (throngref13_far a0_g x3 a2_class (gi x14 v392) x402) fun x403 =>
  if l394.length + 1 < 1099511627776 then
  if I64 (v392 + 1) then
  some (St.next ((v392 + 1),(l394 ++ ([x403]:List (List Int)))))
  else none
  else none
  else none
  else none
  else
  some (St.done l394)) (0,([]:List (List Int)))) fun v18 =>
  Option.bind (throngref10_Of a0_g.w a5_goal) fun x20 =>
  Option.bind (throngref13_far a0_g x3 a2_class a5_goal x20) fun x21 =>
  if 0 ≤ (x14.length:Int)∧(x14.length:Int) ≤ 11728124029610 then
  Option.bind (α:=List PWay) (loop (σ:=Int × List PWay) (β:=List PWay) (fun (v373,l374) =>
  if v373 < (x14.length:Int) then
  if 0 ≤ v373∧v373 < ((x14.length:Int).toNat:Int) then
  if 0 ≤ v373∧v373 < (x14.length:Int) then
  if 0 ≤ (gi x14 v373)∧(gi x14 v373) < (x21.length:Int) then
  if 0 ≤ (gi x21 (gi x14 v373)) then
  if 0 ≤ v373∧v373 < (x14.length:Int) then
  if 0 ≤ (gi x14 v373)∧(gi x14 v373) < (x21.length:Int) then
  if 0 ≤ v373∧v373 < ((x14.length:Int).toNat:Int) then
  if I64 (v373 + 1) then
  some (St.next ((v373 + 1),(si (si l374 v373 (⟨(gi l374 v373).cost,(gi l374 v373).count,true⟩:PWay)) v373 (⟨(gi x21 (gi x14 v373)),0,false⟩:PWay))))
  else none
  else none
  else none
  else none
  else
  if I64 (v373 + 1) then
  some (St.next ((v373 + 1),(si l374 v373 (⟨(gi l374 v373).cost,(gi l374 v373).count,true⟩:PWay))))
  else none
  else none
  else none
  else none
  else
  some (St.done l374)) (0,(List.replicate (x14.length:Int).toNat (⟨0,0,false⟩:PWay)))) fun v26 =>
  Option.bind (α:=List PWay) (loop (σ:=Bool × List PWay) (β:=List PWay) (fun (v331,l332) =>
  if v331 = true then
  Option.bind (α:=Bool × List PWay) (loop (σ:=Bool × Int × List PWay) (β:=Bool × List PWay) (fun (v338,v339,l340) =>
  if v339 < (x14.length:Int) then
  Option.bind (α:=Bool × List PWay) (loop (σ:=Bool × Int × List PWay) (β:=Bool × List PWay) (fun (v347,v348,l349) =>
  if v348 < (x14.length:Int) then
  if 0 ≤ v339∧v339 < (v18.length:Int) then
  Option.bind (throngref13_over a0_g a2_class x12 (gi v18 v339) x14 l349 v348) fun x363 =>
  if 0 ≤ v339∧v339 < ((x14.length:Int).toNat:Int) then
  Option.bind (throngref13_better x363 (gi l349 v339)) fun x367 =>
  if x367 = true then
  if 0 ≤ v339∧v339 < ((x14.length:Int).toNat:Int) then
  if I64 (v348 + 1) then
  some (St.next (true,(v348 + 1),(si l349 v339 x363)))
  else none
  else none
  else
  if I64 (v348 + 1) then
  some (St.next (v347,(v348 + 1),l349))
  else none
  else none
  else none
  else
  some (St.done (v347,l349))) (v338,0,l340)) fun (v344,v345) =>
  if I64 (v339 + 1) then
  some (St.next (v344,(v339 + 1),v345))
  else none
  else
  some (St.done (v338,l340))) (false,0,l332)) fun (v336,v337) =>
  some (St.next (v336,v337))
  else
  some (St.done l332)) (true,v26)) fun v28 =>
  Option.bind (throngref10_Of a0_g.w a4_start) fun x29 =>
  Option.bind (throngref13_far a0_g x3 a2_class a4_start x29) fun x30 =>
  if 0 ≤ a5_goal∧a5_goal < (x30.length:Int) then
  Option.bind (α:=Int × Bool) (if 0 ≤ (gi x30 a5_goal) then
  if 0 ≤ a5_goal∧a5_goal < (x30.length:Int) then
  some ((gi x30 a5_goal),false)
  else none
  else
  some (0,true)) fun (v37,v38) =>
  Option.bind (α:=Int × Int × Bool) (loop (σ:=Int × Int × Int × Bool) (β:=Int × Int × Bool) (fun (v317,v318,v319,v320) =>
  if v317 < (x14.length:Int) then
  Option.bind (throngref13_over a0_g a2_class x12 x30 x14 v28 v317) fun x323 =>
  Option.bind (throngref13_better x323 (⟨v318,v319,v320⟩:PWay)) fun x325 =>
  if x325 = true then
  if I64 (v317 + 1) then
  some (St.next ((v317 + 1),x323.cost,x323.count,x323.no))
  else none
  else
  if I64 (v317 + 1) then
  some (St.next ((v317 + 1),v318,v319,v320))
  else none
  else
  some (St.done (v318,v319,v320))) (0,v37,0,v38)) fun (v40,v41,v42) =>
  if v42 = true then
  some ((⟨0,[],[]⟩:Rte),false)
  else
  Option.bind (α:=List Int) (Option.bind (throngref10_Of a0_g.w a4_start) fun x112 =>
  some [x112]) fun v46 =>
  Option.bind (α:=List Int × List Int) (loop (σ:=Int × Int × Bool × List Int × List Int × List Int) (β:=List Int × List Int) (fun (v53,v54,v55,l56,l58,l61) =>
  if 0 < v54 then
  Option.bind (α:=Int × Int × Bool × List Int × List Int × List Int) (loop (σ:=Int) (β:=Int × Int × Bool × List Int × List Int × List Int) (fun v76 =>
  if v76 < (x14.length:Int) then
  Option.bind (throngref13_over a0_g a2_class x12 l58 x14 v28 v76) fun x79 =>
  if (((!x79.no) = true)∧(x79.cost = v53))∧(x79.count = v54) then
  if 0 ≤ v76∧v76 ≤ 9223372036854775807 then
  if l56.length < 1099511627776 then
  if 0 ≤ v76∧v76 ≤ 9223372036854775807 then
  if 0 ≤ (v76 + 1 - 2 * (v76 % 2))∧(v76 + 1 - 2 * (v76 % 2)) < (x14.length:Int) then
  Option.bind (throngref10_Of a0_g.w (gi x14 (v76 + 1 - 2 * (v76 % 2)))) fun x94 =>
  if l61.length < 1099511627776 then
  if 0 ≤ (v76 + 1 - 2 * (v76 % 2))∧(v76 + 1 - 2 * (v76 % 2)) < ((x14.length:Int).toNat:Int) then
  if 0 ≤ (v76 + 1 - 2 * (v76 % 2))∧(v76 + 1 - 2 * (v76 % 2)) < (v18.length:Int) then
  some (St.done ((gi v28 (v76 + 1 - 2 * (v76 % 2))).cost,(gi v28 (v76 + 1 - 2 * (v76 % 2))).count,(gi v28 (v76 + 1 - 2 * (v76 % 2))).no,(l61 ++ [x94]),(l56 ++ [(v76 / 2)]),(gi v18 (v76 + 1 - 2 * (v76 % 2)))))
  else none
  else none
  else none
  else none
  else none
  else none
  else none
  else
  if I64 (v76 + 1) then
  some (St.next (v76 + 1))
  else none
  else
  some (St.done (v53,v54,v55,l61,l56,l58))) 0) fun (v66,v67,v68,v69,v71,v73) =>
  some (St.next (v66,v67,v68,v71,v73,v69))
  else
  some (St.done (l61,l56))) (v40,v41,v42,[],x30,v46)) fun (v49,v51) =>
  some ((⟨v40,v51,v49⟩:Rte),true)
  else none
  else none
  else none
  else none
def throngref0_EqRoute (a0_a:Rte) (a1_b:Rte):Option Bool :=
  Option.bind (if a0_a.cost = a1_b.cost then
  Option.bind (throngref0_EqNumbers a0_a.portals a1_b.portals) fun x12 =>
  some x12
  else
  some false) fun b5 =>
  Option.bind (if b5 = true then
  Option.bind (throngref0_EqNumbers a0_a.sectors a1_b.sectors) fun x10 =>
  some x10
  else
  some false) fun b8 =>
  some b8
end Go.Proofs.YthdbofgcckjopaaGreat
