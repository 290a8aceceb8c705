/-
  Texts of one's own, joined: TO FG.
-/
import Derived.Test.YtmngdgclldkcfaaGreatRows
import Derived.Test.YtmngdgclldkcfaaGreatJ7
import Derived.Test.YtmngdgclldkcfaaGreatJ9
import Derived.Test.YtmngdgclldkcfaaGreatJ6
import Derived.Test.YtmngdgclldkcfaaGreatJ8
set_option linter.unusedVariables false
set_option linter.unusedSimpArgs false
set_option maxRecDepth 20000
set_option maxHeartbeats 4000000
namespace Go.Proofs.YtmngdgclldkcfaaGreat
open Go.Vg
open Enc (R)
theorem usl87:Tryz.prog.underlying 87 = some (.slice 112):=by kernel_rfl
structure Cmd where
 player:Int
 seq:Int
 kind:Int
 n:Int
 units:List Int
 tile:Int
 w:Int
 h:Int
 pos:Vec
 deriving Inhabited,DecidableEq
instance:Enc Cmd where
 sz:=10
 R h x cs:=∃ v4,cs = [.int .i64 x.player,.int .i64 x.seq,.int .i64 x.kind,.int .i64 x.n,v4,.int .i64 x.tile,.int .i64 x.w,.int .i64 x.h,.int .i64 x.pos.x,.int .i64 x.pos.y]∧Enc.R h (x.units:List Int) [v4]
 len:=fun ⟨v4,e,h4⟩=>by rw [e]; rfl
 one:=fun ⟨v4,e,h4⟩ u hu=>by
  rw [e] at hu; simp only [List.mem_cons,List.not_mem_nil,or_false] at hu
  rcases hu with rfl | rfl | rfl | rfl | rfl | rfl | rfl | rfl | rfl | rfl
  ·rfl
  ·rfl
  ·rfl
  ·rfl
  ·exact Enc.one h4 _ (by simp)
  ·rfl
  ·rfl
  ·rfl
  ·rfl
  ·rfl
 mono:=fun hl ⟨v4,e,h4⟩=>⟨v4,e,Enc.mono hl h4⟩
instance:Deep Cmd where
 D h x c:=∃ q0:Option Nat × Nat,c = [.int .i64 x.player,.int .i64 x.seq,.int .i64 x.kind,.int .i64 x.n,rowV q0 x.units.length,.int .i64 x.tile,.int .i64 x.w,.int .i64 x.h,.int .i64 x.pos.x,.int .i64 x.pos.y]∧stars [row nilH 3 (rowV q0 x.units.length) x.units] h
 toR:=fun ⟨q0,e,⟨_,_,a0,_,_,l0,k0⟩⟩=>⟨_,e,Enc.mono l0 (row_R a0)⟩
 mono:=fun hl ⟨q0,e,s⟩=>⟨_,e,stars_mono hl s⟩
structure Inp where
 turn:Int
 player:Int
 commands:List Cmd
 deriving Inhabited,DecidableEq
instance:Enc Inp where
 sz:=3
 R h x cs:=∃ v2,cs = [.int .i64 x.turn,.int .i64 x.player,v2]∧Enc.R h (x.commands:List Cmd) [v2]
 len:=fun ⟨v2,e,h2⟩=>by rw [e]; rfl
 one:=fun ⟨v2,e,h2⟩ u hu=>by
  rw [e] at hu; simp only [List.mem_cons,List.not_mem_nil,or_false] at hu
  rcases hu with rfl | rfl | rfl
  ·rfl
  ·rfl
  ·exact Enc.one h2 _ (by simp)
 mono:=fun hl ⟨v2,e,h2⟩=>⟨v2,e,Enc.mono hl h2⟩
instance:Deep Inp where
 D h x c:=∃ q0:Option Nat × Nat,c = [.int .i64 x.turn,.int .i64 x.player,rowV q0 x.commands.length]∧stars [drow 37 (rowV q0 x.commands.length) x.commands] h
 toR:=fun ⟨q0,e,⟨_,_,a0,_,_,l0,k0⟩⟩=>⟨_,e,Enc.mono l0 (drow_R a0)⟩
 mono:=fun hl ⟨q0,e,s⟩=>⟨_,e,stars_mono hl s⟩
structure Nte where
 frm:Int
 dst:Int
 input:Inp
 don:Int
 hash:UInt64
 hav:Int
 deriving Inhabited,DecidableEq
instance:Enc Nte where
 sz:=8
 R h x cs:=∃ v4,cs = [.int .i64 x.frm,.int .i64 x.dst,.int .i64 x.input.turn,.int .i64 x.input.player,v4,.int .i64 x.don,.int .u64 x.hash.toNat,.int .i64 x.hav]∧Enc.R h (x.input.commands:List Cmd) [v4]
 len:=fun ⟨v4,e,h4⟩=>by rw [e]; rfl
 one:=fun ⟨v4,e,h4⟩ u hu=>by
  rw [e] at hu; simp only [List.mem_cons,List.not_mem_nil,or_false] at hu
  rcases hu with rfl | rfl | rfl | rfl | rfl | rfl | rfl | rfl
  ·rfl
  ·rfl
  ·rfl
  ·rfl
  ·exact Enc.one h4 _ (by simp)
  ·rfl
  ·rfl
  ·rfl
 mono:=fun hl ⟨v4,e,h4⟩=>⟨v4,e,Enc.mono hl h4⟩
instance:Deep Nte where
 D h x c:=∃ q0:Option Nat × Nat,c = [.int .i64 x.frm,.int .i64 x.dst,.int .i64 x.input.turn,.int .i64 x.input.player,rowV q0 x.input.commands.length,.int .i64 x.don,.int .u64 x.hash.toNat,.int .i64 x.hav]∧stars [drow 37 (rowV q0 x.input.commands.length) x.input.commands] h
 toR:=fun ⟨q0,e,⟨_,_,a0,_,_,l0,k0⟩⟩=>⟨_,e,Enc.mono l0 (drow_R a0)⟩
 mono:=fun hl ⟨q0,e,s⟩=>⟨_,e,stars_mono hl s⟩
structure Per where
 id:Int
 players:Int
 delay:Int
 turn:Int
 said:Int
 mine:List Inp
 inputs:List Inp
 has:List Int
 acked:List Int
 hashes:List UInt64
 split:Bool
 deriving Inhabited,DecidableEq
end Go.Proofs.YtmngdgclldkcfaaGreat
set_option linter.unusedVariables false
set_option linter.unusedSimpArgs false
set_option maxRecDepth 20000
set_option maxHeartbeats 4000000
namespace Go.Proofs.YtmngdgclldkcfaaGreat
open Go.Vg
open Enc (R)
def kind_Price (a0_class:Int) (a1_terrain:Int):Option Int :=
  if a0_class = 0 then
  if (List.replicate 6 0).length = 6∧[2,1,3,5,0,0].length = 6 then
  if 0 ≤ a1_terrain∧a1_terrain < (6:Int)∧[2,1,3,5,0,0].length = 6 then
  some (gi [2,1,3,5,0,0] a1_terrain)
  else none
  else none
  else
  if a0_class = 1 then
  if (List.replicate 6 0).length = 6∧[2,1,6,0,0,0].length = 6 then
  if 0 ≤ a1_terrain∧a1_terrain < (6:Int)∧[2,1,6,0,0,0].length = 6 then
  some (gi [2,1,6,0,0,0] a1_terrain)
  else none
  else none
  else
  if (List.replicate 6 0).length = 6∧[2,1,0,3,2,0].length = 6 then
  if 0 ≤ a1_terrain∧a1_terrain < (6:Int)∧[2,1,0,3,2,0].length = 6 then
  some (gi [2,1,0,3,2,0] a1_terrain)
  else none
  else none
def ground_Ways:Option (List Int) :=
  if (List.replicate 16 0).length = 16∧[0,(-1),1,0,0,1,(-1),0,1,(-1),1,1,(-1),1,(-1),(-1)].length = 16 then
  if [0,(-1),1,0,0,1,(-1),0,1,(-1),1,1,(-1),1,(-1),(-1)].length = 16 then
  some [0,(-1),1,0,0,1,(-1),0,1,(-1),1,1,(-1),1,(-1),(-1)]
  else none
  else none
def ground_Beside (a0_g:Grd) (a1_t:Int):Option (List Int) :=
  if 0 ≤ a1_t∧a1_t ≤ 9223372036854775807∧(1:Int) ≤ a0_g.w then
  if 0 ≤ a1_t∧a1_t ≤ 9223372036854775807∧(1:Int) ≤ a0_g.w then
  Option.bind (ground_Ways) fun x5 =>
  Option.bind (α:=List Int) (loop (σ:=Int × List Int) (β:=List Int) (fun (v11,v12) =>
  if v11 < 8 then
  if 0 ≤ v11∧v11 < (8:Int)∧x5.length = 16 then
  if 0 ≤ v11∧v11 < (8:Int)∧v12.length = 8 then
  if I64 ((a1_t % a0_g.w) + (gi x5 (2 * v11))) then
  if I64 ((a1_t / a0_g.w) + (gi x5 (2 * v11 + 1))) then
  Option.bind (ground_On a0_g ((a1_t % a0_g.w) + (gi x5 (2 * v11))) ((a1_t / a0_g.w) + (gi x5 (2 * v11 + 1)))) fun x20 =>
  if x20 = true then
  if I64 ((a1_t % a0_g.w) + (gi x5 (2 * v11))) then
  if I64 ((a1_t / a0_g.w) + (gi x5 (2 * v11 + 1))) then
  if I64 (a0_g.w * ((a1_t / a0_g.w) + (gi x5 (2 * v11 + 1)))) then
  if I64 (((a1_t % a0_g.w) + (gi x5 (2 * v11))) + (a0_g.w * ((a1_t / a0_g.w) + (gi x5 (2 * v11 + 1))))) then
  if 0 ≤ v11∧v11 < (8:Int)∧(si v12 v11 (-1)).length = 8 then
  if I64 (v11 + 1) then
  some (St.next ((v11 + 1),(si (si v12 v11 (-1)) v11 (((a1_t % a0_g.w) + (gi x5 (2 * v11))) + (a0_g.w * ((a1_t / a0_g.w) + (gi x5 (2 * v11 + 1))))))))
  else none
  else none
  else none
  else none
  else none
  else none
  else
  if I64 (v11 + 1) then
  some (St.next ((v11 + 1),(si v12 v11 (-1))))
  else none
  else none
  else none
  else none
  else none
  else
  some (St.done v12)) (0,(List.replicate 8 0))) fun v7 =>
  if v7.length = 8 then
  if v7.length = 8∧v7.length = 8 then
  if v7.length = 8 then
  some v7
  else none
  else none
  else none
  else none
  else none
def clear_pass (a0_g:Grd) (a1_k:List Int) (a2_t:Int) (a3_ways:List Pr2):Option (List Int) :=
  if 0 ≤ a2_t∧a2_t ≤ 9223372036854775807∧(1:Int) ≤ a0_g.w then
  if 0 ≤ a2_t∧a2_t ≤ 9223372036854775807∧(1:Int) ≤ a0_g.w then
  Option.bind (α:=List Int) (loop (σ:=Int × List Int) (β:=List Int) (fun (v6,l7) =>
  if v6 < (a3_ways.length:Int) then
  if 0 ≤ v6∧v6 < (a3_ways.length:Int) then
  if I64 ((a2_t % a0_g.w) + ((gi a3_ways v6).a)) then
  if I64 ((a2_t / a0_g.w) + ((gi a3_ways v6).b)) then
  Option.bind (ground_On a0_g ((a2_t % a0_g.w) + ((gi a3_ways v6).a)) ((a2_t / a0_g.w) + ((gi a3_ways v6).b))) fun x16 =>
  Option.bind (α:=Int) (if x16 = true then
  if I64 ((a2_t % a0_g.w) + ((gi a3_ways v6).a)) then
  if I64 ((a2_t / a0_g.w) + ((gi a3_ways v6).b)) then
  if I64 (a0_g.w * ((a2_t / a0_g.w) + ((gi a3_ways v6).b))) then
  if I64 (((a2_t % a0_g.w) + ((gi a3_ways v6).a)) + (a0_g.w * ((a2_t / a0_g.w) + ((gi a3_ways v6).b)))) then
  if 0 ≤ (((a2_t % a0_g.w) + ((gi a3_ways v6).a)) + (a0_g.w * ((a2_t / a0_g.w) + ((gi a3_ways v6).b))))∧(((a2_t % a0_g.w) + ((gi a3_ways v6).a)) + (a0_g.w * ((a2_t / a0_g.w) + ((gi a3_ways v6).b)))) < (a1_k.length:Int) then
  some (gi l7 (((a2_t % a0_g.w) + ((gi a3_ways v6).a)) + (a0_g.w * ((a2_t / a0_g.w) + ((gi a3_ways v6).b)))))
  else none
  else none
  else none
  else none
  else none
  else
  some 0) fun v18 =>
  if 0 ≤ a2_t∧a2_t < (a1_k.length:Int) then
  if I64 (v18 + 1) then
  if 0 ≤ a2_t∧a2_t < (a1_k.length:Int) then
  if I64 (v6 + 1) then
  some (St.next ((v6 + 1),(si l7 a2_t (min (gi l7 a2_t) (v18 + 1)))))
  else none
  else none
  else none
  else none
  else none
  else none
  else none
  else
  some (St.done l7)) (0,a1_k)) fun v5 =>
  some v5
  else none
  else none
def clear_Tiles (a0_g:Grd) (a1_l:List Bld) (a2_class:Int):Option (List Bool) :=
  Option.bind (build_Cover a0_g a1_l) fun x2 =>
  Option.bind (α:=List Bool) (loop (σ:=Int × List Bool) (β:=List Bool) (fun (v6,l7) =>
  if v6 < (x2.length:Int) then
  if 0 ≤ v6∧v6 < (x2.length:Int) then
  Option.bind (if (!(gi l7 v6)) = true then
  if 0 ≤ v6∧v6 < (a0_g.tiles.length:Int) then
  Option.bind (kind_Price a2_class ((gi a0_g.tiles v6).toNat:Int)) fun x24 =>
  some (decide (0 < x24))
  else none
  else
  some false) fun b16 =>
  if 0 ≤ v6∧v6 < (x2.length:Int) then
  if I64 (v6 + 1) then
  some (St.next ((v6 + 1),(si l7 v6 b16)))
  else none
  else none
  else none
  else
  some (St.done l7)) (0,x2)) fun v5 =>
  some v5
def clear_Room (a0_g:Grd) (a1_l:List Bld) (a2_class:Int):Option (List Int) :=
  if 0 ≤ (a0_g.tiles.length:Int)∧(a0_g.tiles.length:Int) ≤ 35184372088832 then
  Option.bind (clear_Tiles a0_g a1_l a2_class) fun x4 =>
  Option.bind (α:=List Int) (loop (σ:=Int × List Int) (β:=List Int) (fun (v29,l30) =>
  if v29 < (x4.length:Int) then
  if 0 ≤ v29∧v29 < (x4.length:Int) then
  if (gi x4 v29) = true then
  if 0 ≤ v29∧v29 < ((a0_g.tiles.length:Int).toNat:Int) then
  if I64 (v29 + 1) then
  some (St.next ((v29 + 1),(si l30 v29 128)))
  else none
  else none
  else
  if I64 (v29 + 1) then
  some (St.next ((v29 + 1),l30))
  else none
  else none
  else
  some (St.done l30)) (0,(List.replicate (a0_g.tiles.length:Int).toNat 0))) fun v7 =>
  Option.bind (α:=List Int) (loop (σ:=Int × List Int) (β:=List Int) (fun (v21,l22) =>
  if v21 < ((a0_g.tiles.length:Int).toNat:Int) then
  Option.bind (clear_pass a0_g l22 v21 ([(⟨(-1),0⟩:Pr2),(⟨(-1),(-1)⟩:Pr2),(⟨0,(-1)⟩:Pr2),(⟨1,(-1)⟩:Pr2)]:List Pr2)) fun x26 =>
  if I64 (v21 + 1) then
  some (St.next ((v21 + 1),x26))
  else none
  else
  some (St.done l22)) (0,v7)) fun v9 =>
  if I64 (((a0_g.tiles.length:Int).toNat:Int) - 1) then
  Option.bind (α:=List Int) (loop (σ:=Int × List Int) (β:=List Int) (fun (v13,l14) =>
  if 0 ≤ v13 then
  Option.bind (clear_pass a0_g l14 v13 ([(⟨1,0⟩:Pr2),(⟨1,1⟩:Pr2),(⟨0,1⟩:Pr2),(⟨(-1),1⟩:Pr2)]:List Pr2)) fun x18 =>
  if I64 (v13 - 1) then
  some (St.next ((v13 - 1),x18))
  else none
  else
  some (St.done l14)) ((((a0_g.tiles.length:Int).toNat:Int) - 1),v9)) fun v12 =>
  some v12
  else none
  else none
def queue_New:Option (Option Que) :=
  some (some (⟨([]:List Itm)⟩:Que))
def queue_Queue_Push (a0_q:Que) (a1_key:Int) (a2_val:Int):Option Que :=
  if a0_q.l.length < 1099511627776 then
  if I64 (((a0_q.l ++ [(⟨a1_key,a2_val⟩:Itm)]).length:Int) - 1) then
  Option.bind (α:=Ex (Unit) (Que)) (loop (σ:=Int) (β:=Ex (Unit) (Que)) (fun v7 =>
  if 0 < v7 then
  none
  else
  some (St.done (Ex.go ()))) (((a0_q.l ++ [(⟨a1_key,a2_val⟩:Itm)]).length:Int) - 1)) fun x=>x.then fun _ =>
  some (⟨(a0_q.l ++ [(⟨a1_key,a2_val⟩:Itm)])⟩:Que)
  else none
  else none
def queue_Queue_Pop (a0_q:Que):Option (Int × Int × Bool × Que) :=
  if I64 ((a0_q.l.length:Int) - 1) then
  if ((a0_q.l.length:Int) - 1) < 0 then
  some (0,0,false,a0_q)
  else
  if 0 ≤ (0:Int)∧(0:Int) < (a0_q.l.length:Int) then
  if 0 ≤ ((a0_q.l.length:Int) - 1)∧((a0_q.l.length:Int) - 1) < (a0_q.l.length:Int) then
  if 0 ≤ (0:Int)∧(0:Int) < (a0_q.l.length:Int) then
  if 0 ≤ ((a0_q.l.length:Int) - 1)∧((a0_q.l.length:Int) - 1) ≤ (a0_q.l.length:Int) then
  Option.bind (α:=Unit) (loop (σ:=Int) (β:=Unit) (fun v13 =>
  if I64 (2 * v13) then
  if I64 ((2 * v13) + 1) then
  if ((a0_q.l.length:Int) - 1) ≤ ((2 * v13) + 1) then
  some (St.done ())
  else
  none
  else none
  else none) 0) fun _ =>
  some ((gi a0_q.l (0:Int)).key,(gi a0_q.l (0:Int)).val,true,(⟨((si a0_q.l (0:Int) (gi a0_q.l ((a0_q.l.length:Int) - 1))).take ((a0_q.l.length:Int) - 1).toNat)⟩:Que))
  else none
  else none
  else none
  else none
  else none
def field_Fit (a0_g:Grd) (a1_l:List Bld) (a2_class:Int) (a3_size:Int):Option (List Bool) :=
  if 0 ≤ (a0_g.tiles.length:Int)∧(a0_g.tiles.length:Int) ≤ 281474976710656 then
  Option.bind (clear_Room a0_g a1_l a2_class) fun x4 =>
  Option.bind (α:=List Bool) (loop (σ:=Int × List Bool) (β:=List Bool) (fun (v8,l9) =>
  if v8 < (x4.length:Int) then
  if 0 ≤ v8∧v8 < (x4.length:Int) then
  if 0 ≤ v8∧v8 < ((a0_g.tiles.length:Int).toNat:Int) then
  if I64 (v8 + 1) then
  some (St.next ((v8 + 1),(si l9 v8 (decide (a3_size < (gi x4 v8))))))
  else none
  else none
  else none
  else
  some (St.done l9)) (0,(List.replicate (a0_g.tiles.length:Int).toNat false))) fun v7 =>
  some v7
  else none
def field_Net_Step (a0_n:Net) (a1_t:Int) (a2_near:List Int) (a3_way:Int) (a4_in:Int→Option Bool):Option Int :=
  if 0 ≤ a3_way∧a3_way < (8:Int)∧a2_near.length = 8 then
  if ¬ ((gi a2_near a3_way) < 0)→(0 ≤ (gi a2_near a3_way)∧(gi a2_near a3_way) < (a0_n.free.length:Int)) then
  Option.bind (if ((gi a2_near a3_way) < 0) ∨ ((!(gi a0_n.free (gi a2_near a3_way))) = true) then
  some true
  else
  Option.bind (a4_in (gi a2_near a3_way)) fun x20 =>
  some (!x20)) fun b8 =>
  if b8 = true then
  some 0
  else
  if 0 ≤ a1_t∧a1_t < (a0_n.g.tiles.length:Int) then
  Option.bind (kind_Price a0_n.cls ((gi a0_n.g.tiles a1_t).toNat:Int)) fun x13 =>
  if 0 ≤ (gi a2_near a3_way)∧(gi a2_near a3_way) < (a0_n.g.tiles.length:Int) then
  Option.bind (kind_Price a0_n.cls ((gi a0_n.g.tiles (gi a2_near a3_way)).toNat:Int)) fun x15 =>
  if I64 (x13 + x15) then
  if a3_way < 4 then
  if I64 (5 * (x13 + x15)) then
  some (5 * (x13 + x15))
  else none
  else
  none
  else none
  else none
  else none
  else none
  else none
def field_everywhere (a0_x:Int):Option Bool :=
  some true
def field_Net_From (a0_n:Net) (a1_goal:Int) (a2_in:Int→Option Bool):Option (List Int) :=
  Option.bind (slices_Repeat_Int ([(-1)]:List Int) (a0_n.g.tiles.length:Int)) fun x2 =>
  if 0 ≤ a1_goal∧a1_goal < (a0_n.free.length:Int) then
  if (!(gi a0_n.free a1_goal)) = true then
  none
  else
  if 0 ≤ (x2.length:Int)∧(x2.length:Int) ≤ 281474976710656 then
  if 0 ≤ a1_goal∧a1_goal < (x2.length:Int) then
  Option.bind (queue_New) fun o14 =>
  Option.bind o14 fun z16 =>
  Option.bind (queue_Queue_Push z16 0 a1_goal) fun x17 =>
  Option.bind (queue_Queue_Pop x17) fun x18 =>
  Option.bind (α:=Que × List Int) (loop (σ:=Int × Int × Bool × List Int × List Bool × Que) (β:=Que × List Int) (fun (v22,v23,v24,l25,l26,v27) =>
  if v24 = true then
  if 0 ≤ v23∧v23 < ((x2.length:Int).toNat:Int) then
  if (gi l26 v23) = true then
  Option.bind (queue_Queue_Pop v27) fun x33 =>
  some (St.next (x33.1,x33.2.1,x33.2.2.1,l25,l26,x33.2.2.2))
  else
  if 0 ≤ v23∧v23 < ((x2.length:Int).toNat:Int) then
  Option.bind (ground_Beside a0_n.g v23) fun x36 =>
  if (List.replicate 8 0).length = 8∧x36.length = 8 then
  if x36.length = 8 then
  Option.bind (α:=Que × List Int) (loop (σ:=Int × List Int × Que) (β:=Que × List Int) (fun (v44,l45,v46) =>
  if v44 < 8 then
  if 0 ≤ v44∧v44 < (8:Int)∧x36.length = 8 then
  if x36.length = 8 then
  Option.bind (field_Net_Step a0_n v23 x36 v44 a2_in) fun x51 =>
  if (0 < x51)→(0 ≤ (gi x36 v44)∧(gi x36 v44) < ((x2.length:Int).toNat:Int)) then
  if ((0 < x51)∧((!(gi (si l26 v23 true) (gi x36 v44))) = true))→(0 ≤ (gi x36 v44)∧(gi x36 v44) < (x2.length:Int)) then
  if ((0 < x51)∧((!(gi (si l26 v23 true) (gi x36 v44))) = true))→(¬ ((gi l45 (gi x36 v44)) < 0)→(I64 (v22 + x51))) then
  if ((0 < x51)∧((!(gi (si l26 v23 true) (gi x36 v44))) = true))→(¬ ((gi l45 (gi x36 v44)) < 0)→(0 ≤ (gi x36 v44)∧(gi x36 v44) < (x2.length:Int))) then
  if ((0 < x51)∧((!(gi (si l26 v23 true) (gi x36 v44))) = true))∧(((gi l45 (gi x36 v44)) < 0) ∨ ((v22 + x51) < (gi l45 (gi x36 v44)))) then
  if I64 (v22 + x51) then
  if 0 ≤ (gi x36 v44)∧(gi x36 v44) < (x2.length:Int) then
  if I64 (v22 + x51) then
  Option.bind (queue_Queue_Push v46 (v22 + x51) (gi x36 v44)) fun x65 =>
  if I64 (v44 + 1) then
  some (St.next ((v44 + 1),(si l45 (gi x36 v44) (v22 + x51)),x65))
  else none
  else none
  else none
  else none
  else
  if I64 (v44 + 1) then
  some (St.next ((v44 + 1),l45,v46))
  else none
  else none
  else none
  else none
  else none
  else none
  else none
  else
  some (St.done (v46,l45))) (0,l25,v27)) fun (v41,v42) =>
  Option.bind (queue_Queue_Pop v41) fun x43 =>
  some (St.next (x43.1,x43.2.1,x43.2.2.1,v42,(si l26 v23 true),x43.2.2.2))
  else none
  else none
  else none
  else none
  else
  some (St.done (v27,l25))) (x18.1,x18.2.1,x18.2.2.1,(si x2 a1_goal 0),(List.replicate (x2.length:Int).toNat false),x18.2.2.2)) fun (v20,v21) =>
  some v21
  else none
  else none
  else none
def field_Open (a0_g:Grd) (a1_l:List Bld) (a2_class:Int) (a3_size:Int):Option Net :=
  Option.bind (field_Fit a0_g a1_l a2_class a3_size) fun x2 =>
  some (⟨a0_g,a2_class,x2⟩:Net)
def field_Net_Toward (a0_n:Net) (a1_goal:Int):Option (List Int) :=
  Option.bind (field_Net_From a0_n a1_goal (fun y0=>field_everywhere y0)) fun x1 =>
  Option.bind (slices_Repeat_Int ([(-1)]:List Int) (x1.length:Int)) fun x4 =>
  Option.bind (α:=List Int) (loop (σ:=Int × List Int) (β:=List Int) (fun (v8,l9) =>
  if v8 < (x1.length:Int) then
  if 0 ≤ v8∧v8 < (x1.length:Int) then
  if (gi x1 v8) ≤ 0 then
  if I64 (v8 + 1) then
  some (St.next ((v8 + 1),l9))
  else none
  else
  Option.bind (ground_Beside a0_n.g v8) fun x17 =>
  if (List.replicate 8 0).length = 8∧x17.length = 8 then
  if x17.length = 8 then
  Option.bind (α:=List Int) (loop (σ:=Int) (β:=List Int) (fun v24 =>
  if v24 < 8 then
  if 0 ≤ v24∧v24 < (8:Int)∧x17.length = 8 then
  if x17.length = 8 then
  Option.bind (field_Net_Step a0_n v8 x17 v24 (fun y0=>field_everywhere y0)) fun x29 =>
  if (0 < x29)→(0 ≤ (gi x17 v24)∧(gi x17 v24) < (x1.length:Int)) then
  if ((0 < x29)∧(0 ≤ (gi x1 (gi x17 v24))))→(0 ≤ (gi x17 v24)∧(gi x17 v24) < (x1.length:Int)) then
  if ((0 < x29)∧(0 ≤ (gi x1 (gi x17 v24))))→(I64 (x29 + (gi x1 (gi x17 v24)))) then
  if ((0 < x29)∧(0 ≤ (gi x1 (gi x17 v24))))∧((x29 + (gi x1 (gi x17 v24))) = (gi x1 v8)) then
  if 0 ≤ v8∧v8 < (x4.length:Int) then
  some (St.done (si l9 v8 v24))
  else none
  else
  if I64 (v24 + 1) then
  some (St.next (v24 + 1))
  else none
  else none
  else none
  else none
  else none
  else none
  else
  some (St.done l9)) 0) fun v22 =>
  if I64 (v8 + 1) then
  some (St.next ((v8 + 1),v22))
  else none
  else none
  else none
  else none
  else
  some (St.done l9)) (0,x4)) fun v7 =>
  some v7
end Go.Proofs.YtmngdgclldkcfaaGreat
