/-
  Walks of what the statements of the fields call: the smaller functions.
-/
import Derived.Test.YtgpjjcncdaelpaaRows
import Derived.Test.YtgpjjcncdaelpaaFG
import Derived.Test.YtgpjjcncdaelpaaBH
set_option linter.unusedVariables false
set_option linter.unusedSimpArgs false
set_option maxRecDepth 20000
set_option maxHeartbeats 4000000
namespace Go.Proofs.Ytgpjjcncdaelpaa
open Go.Vg
open Enc (R)
theorem ar117 : arTy Try.prog 117 = some (6, 3, 1) := by kernel_rfl
theorem ar118 : arTy Try.prog 118 = some (3, 117, 6) := by kernel_rfl
theorem ar131 : arTy Try.prog 131 = some (2, 3, 1) := by kernel_rfl
theorem ar132 : arTy Try.prog 132 = some (8, 131, 2) := by kernel_rfl
theorem ar95 : arTy Try.prog 95 = some (8, 3, 1) := by kernel_rfl
theorem at117 : atTy Try.prog 117 = some ([.int .i64 0, .int .i64 0, .int .i64 0, .int .i64 0, .int .i64 0, .int .i64 0], 1) := by kernel_rfl
theorem at118 : atTy Try.prog 118 = some ([.int .i64 0, .int .i64 0, .int .i64 0, .int .i64 0, .int .i64 0, .int .i64 0, .int .i64 0, .int .i64 0, .int .i64 0, .int .i64 0, .int .i64 0, .int .i64 0, .int .i64 0, .int .i64 0, .int .i64 0, .int .i64 0, .int .i64 0, .int .i64 0], 6) := by kernel_rfl
theorem at131 : atTy Try.prog 131 = some ([.int .i64 0, .int .i64 0], 1) := by kernel_rfl
theorem at132 : atTy Try.prog 132 = some ([.int .i64 0, .int .i64 0, .int .i64 0, .int .i64 0, .int .i64 0, .int .i64 0, .int .i64 0, .int .i64 0, .int .i64 0, .int .i64 0, .int .i64 0, .int .i64 0, .int .i64 0, .int .i64 0, .int .i64 0, .int .i64 0], 2) := by kernel_rfl
theorem at95 : atTy Try.prog 95 = some ([.int .i64 0, .int .i64 0, .int .i64 0, .int .i64 0, .int .i64 0, .int .i64 0, .int .i64 0, .int .i64 0], 1) := by kernel_rfl
theorem ent100 : Ent Try.prog 100 := ⟨_, _, Try.func100, by kernel_rfl, rfl⟩
theorem ent101 : Ent Try.prog 101 := ⟨_, _, Try.func101, by kernel_rfl, rfl⟩
theorem ent102 : Ent Try.prog 102 := ⟨_, _, Try.func102, by kernel_rfl, rfl⟩
theorem ent103 : Ent Try.prog 103 := ⟨_, _, Try.func103, by kernel_rfl, rfl⟩
theorem ent104 : Ent Try.prog 104 := ⟨_, _, Try.func104, by kernel_rfl, rfl⟩
theorem ent105 : Ent Try.prog 105 := ⟨_, _, Try.func105, by kernel_rfl, rfl⟩
theorem ent106 : Ent Try.prog 106 := ⟨_, _, Try.func106, by kernel_rfl, rfl⟩
theorem ent107 : Ent Try.prog 107 := ⟨_, _, Try.func107, by kernel_rfl, rfl⟩
theorem ent108 : Ent Try.prog 108 := ⟨_, _, Try.func108, by kernel_rfl, rfl⟩
theorem ent115 : Ent Try.prog 115 := ⟨_, _, Try.func115, by kernel_rfl, rfl⟩
theorem ent117 : Ent Try.prog 117 := ⟨_, _, Try.func117, by kernel_rfl, rfl⟩
theorem ent118 : Ent Try.prog 118 := ⟨_, _, Try.func118, by kernel_rfl, rfl⟩
theorem ent119 : Ent Try.prog 119 := ⟨_, _, Try.func119, by kernel_rfl, rfl⟩
theorem ent120 : Ent Try.prog 120 := ⟨_, _, Try.func120, by kernel_rfl, rfl⟩
theorem ent121 : Ent Try.prog 121 := ⟨_, _, Try.func121, by kernel_rfl, rfl⟩
theorem ent122 : Ent Try.prog 122 := ⟨_, _, Try.func122, by kernel_rfl, rfl⟩
theorem ent123 : Ent Try.prog 123 := ⟨_, _, Try.func123, by kernel_rfl, rfl⟩
theorem ent124 : Ent Try.prog 124 := ⟨_, _, Try.func124, by kernel_rfl, rfl⟩
theorem ent27 : Ent Try.prog 27 := ⟨_, _, Try.func27, by kernel_rfl, rfl⟩
theorem ent39 : Ent Try.prog 39 := ⟨_, _, Try.func39, by kernel_rfl, rfl⟩
theorem ent40 : Ent Try.prog 40 := ⟨_, _, Try.func40, by kernel_rfl, rfl⟩
theorem ent41 : Ent Try.prog 41 := ⟨_, _, Try.func41, by kernel_rfl, rfl⟩
theorem ent45 : Ent Try.prog 45 := ⟨_, _, Try.func45, by kernel_rfl, rfl⟩
theorem ent46 : Ent Try.prog 46 := ⟨_, _, Try.func46, by kernel_rfl, rfl⟩
theorem ent51 : Ent Try.prog 51 := ⟨_, _, Try.func51, by kernel_rfl, rfl⟩
theorem ent67 : Ent Try.prog 67 := ⟨_, _, Try.func67, by kernel_rfl, rfl⟩
theorem ent69 : Ent Try.prog 69 := ⟨_, _, Try.func69, by kernel_rfl, rfl⟩
theorem ent70 : Ent Try.prog 70 := ⟨_, _, Try.func70, by kernel_rfl, rfl⟩
theorem ent71 : Ent Try.prog 71 := ⟨_, _, Try.func71, by kernel_rfl, rfl⟩
theorem ent72 : Ent Try.prog 72 := ⟨_, _, Try.func72, by kernel_rfl, rfl⟩
theorem ent74 : Ent Try.prog 74 := ⟨_, _, Try.func74, by kernel_rfl, rfl⟩
theorem ent75 : Ent Try.prog 75 := ⟨_, _, Try.func75, by kernel_rfl, rfl⟩
theorem ent76 : Ent Try.prog 76 := ⟨_, _, Try.func76, by kernel_rfl, rfl⟩
theorem ent77 : Ent Try.prog 77 := ⟨_, _, Try.func77, by kernel_rfl, rfl⟩
theorem ent78 : Ent Try.prog 78 := ⟨_, _, Try.func78, by kernel_rfl, rfl⟩
theorem ent79 : Ent Try.prog 79 := ⟨_, _, Try.func79, by kernel_rfl, rfl⟩
theorem ent80 : Ent Try.prog 80 := ⟨_, _, Try.func80, by kernel_rfl, rfl⟩
theorem ent81 : Ent Try.prog 81 := ⟨_, _, Try.func81, by kernel_rfl, rfl⟩
theorem ent82 : Ent Try.prog 82 := ⟨_, _, Try.func82, by kernel_rfl, rfl⟩
theorem ent83 : Ent Try.prog 83 := ⟨_, _, Try.func83, by kernel_rfl, rfl⟩
theorem ent98 : Ent Try.prog 98 := ⟨_, _, Try.func98, by kernel_rfl, rfl⟩
theorem ent99 : Ent Try.prog 99 := ⟨_, _, Try.func99, by kernel_rfl, rfl⟩
theorem fd106_0 : fdOff Try.prog 106 0 = some 0 := by kernel_rfl
theorem fd106_1 : fdOff Try.prog 106 1 = some 3 := by kernel_rfl
theorem fd106_2 : fdOff Try.prog 106 2 = some 4 := by kernel_rfl
theorem fd127_0 : fdOff Try.prog 127 0 = some 0 := by kernel_rfl
theorem fd129_0 : fdOff Try.prog 129 0 = some 0 := by kernel_rfl
theorem fd129_1 : fdOff Try.prog 129 1 = some 1 := by kernel_rfl
theorem fd56_0 : fdOff Try.prog 56 0 = some 0 := by kernel_rfl
theorem fd56_1 : fdOff Try.prog 56 1 = some 3 := by kernel_rfl
theorem fd56_2 : fdOff Try.prog 56 2 = some 4 := by kernel_rfl
theorem fd56_3 : fdOff Try.prog 56 3 = some 5 := by kernel_rfl
theorem fd56_4 : fdOff Try.prog 56 4 = some 6 := by kernel_rfl
theorem sl125 : slTy Try.prog 125 = some (129, 2, 16) := by kernel_rfl
theorem sl138 : slTy Try.prog 138 = some (131, 2, 16) := by kernel_rfl
theorem st106 : stTy Try.prog 106 = some ([.int .i64 0, .int .i64 0, .slice none 0 0, .int .i64 0, .slice none 0 0], [(0, 3), (3, 1), (4, 1)]) := by kernel_rfl
theorem st127 : stTy Try.prog 127 = some ([.slice none 0 0], [(0, 1)]) := by kernel_rfl
theorem st129 : stTy Try.prog 129 = some ([.int .i64 0, .int .i64 0], [(0, 1), (1, 1)]) := by kernel_rfl
theorem ty117 : tySz Try.prog 117 = some (6, true) := by kernel_rfl
theorem ty118 : tySz Try.prog 118 = some (18, true) := by kernel_rfl
theorem ty125 : tySz Try.prog 125 = some (1, false) := by kernel_rfl
theorem ty129 : tySz Try.prog 129 = some (2, true) := by kernel_rfl
theorem ty131 : tySz Try.prog 131 = some (2, true) := by kernel_rfl
theorem ty132 : tySz Try.prog 132 = some (16, true) := by kernel_rfl
theorem ty45 : tySz Try.prog 45 = some (1, false) := by kernel_rfl
theorem ty95 : tySz Try.prog 95 = some (8, true) := by kernel_rfl
theorem zr117 : zeroOf Try.prog 117 = some (.agg #[.int .i64 0, .int .i64 0, .int .i64 0, .int .i64 0, .int .i64 0, .int .i64 0]) := by kernel_rfl
theorem zr118 : zeroOf Try.prog 118 = some (.agg #[.int .i64 0, .int .i64 0, .int .i64 0, .int .i64 0, .int .i64 0, .int .i64 0, .int .i64 0, .int .i64 0, .int .i64 0, .int .i64 0, .int .i64 0, .int .i64 0, .int .i64 0, .int .i64 0, .int .i64 0, .int .i64 0, .int .i64 0, .int .i64 0]) := by kernel_rfl
theorem zr129 : zeroOf Try.prog 129 = some (.agg #[.int .i64 0, .int .i64 0]) := by kernel_rfl
theorem zr131 : zeroOf Try.prog 131 = some (.agg #[.int .i64 0, .int .i64 0]) := by kernel_rfl
theorem zr132 : zeroOf Try.prog 132 = some (.agg #[.int .i64 0, .int .i64 0, .int .i64 0, .int .i64 0, .int .i64 0, .int .i64 0, .int .i64 0, .int .i64 0, .int .i64 0, .int .i64 0, .int .i64 0, .int .i64 0, .int .i64 0, .int .i64 0, .int .i64 0, .int .i64 0]) := by kernel_rfl
theorem zr95 : zeroOf Try.prog 95 = some (.agg #[.int .i64 0, .int .i64 0, .int .i64 0, .int .i64 0, .int .i64 0, .int .i64 0, .int .i64 0, .int .i64 0]) := by kernel_rfl
theorem kind_Class_walk (a0_c : Int) (w : World) {r : Bool} (H : kind_Class a0_c = some r) : Calls Try.prog 122 #[.int .i64 a0_c] w fun e w' => e = .returned (.bool r) ∧ Ext w w' := by
 unfold kind_Class at H
 refine T.enter (args := [_]) (S := Sat w []) Try.func122 rfl rfl (Sat.start w) ?_
 refine T.seq fun K1 hK1 => ?_
 refine T.region ?_
 refine RS.p (Pu.assign rfl) rfl rfl ?_
 refine RS.nil (hK1 _ _ ?_)
 refine T.seq fun K2 hK2 => ?_
 refine T.region ?_
 refine RS.p (Pu.move rfl) rfl rfl ?_
 refine RS.p (Pu.bin rfl rfl rfl) rfl rfl ?_
 refine RS.p (Pu.move rfl) rfl rfl ?_
 refine RS.joinV 3 8 (.bool (decide ((0 ≤ a0_c) ∧ (a0_c ≤ 2)))) [(2, _)] ⟨rfl, trivial⟩ ?_ ?_
 ·refine RS.p (Pu.assign rfl) rfl rfl ?_
  refine RS.nil (hK2 _ _ ?_)
  obtain rfl := Option.some.inj H
  refine T.retTo (by with_reducible ((repeat (first | apply RetTo.seq | apply RetTo.blk)); exact RetTo.refl _)) (Cont.ret1 rfl rfl fun w' s => ?_)
  exact ⟨rfl, s.ext⟩
 ·intro hJ2
  refine RS.splitP 5 rfl (fun hc1 => ?_) (fun hc1 => ?_)
  ·refine RS.p (Pu.move rfl) rfl rfl ?_
   refine RS.p (Pu.bin rfl rfl rfl) rfl rfl ?_
   refine RS.p (Pu.pickT rfl rfl) rfl rfl ?_
   exact hJ2 _ _ ⟨dAndT hc1, rfl, trivial⟩ (fun w s => s)
  ·refine RS.no rfl rfl ?_
   refine RS.no rfl rfl ?_
   refine RS.p (Pu.pickF rfl rfl) rfl rfl ?_
   exact hJ2 _ _ ⟨dAndF hc1, rfl, trivial⟩ (fun w s => s)
theorem kind_Price_walk (a0_class : Int) (a1_terrain : Int) (w : World) {r : Int} (H : kind_Price a0_class a1_terrain = some r) : Calls Try.prog 120 #[.int .i64 a0_class, .int .u8 a1_terrain] w fun e w' => e = .returned (.int .i64 r) ∧ Ext w w' := by
 unfold kind_Price at H
 refine T.enter (args := [_, _]) (S := Sat w []) Try.func120 rfl rfl (Sat.start w) ?_
 refine T.seq fun K1 hK1 => ?_
 refine T.region ?_
 refine RS.p (Pu.assign rfl) rfl rfl ?_
 refine RS.nil (hK1 _ _ ?_)
 refine T.seq fun K2 hK2 => ?_
 refine T.region ?_
 refine RS.solid (Sd.alloc (cs := nums (List.replicate 6 0)) zr117 rfl) rfl rfl fun b1 => ?_
 refine RS.nil (hK2 _ _ ?_)
 refine T.seq fun K3 hK3 => ?_
 refine T.seq fun K4 hK4 => ?_
 refine T.region ?_
 refine RS.p (Pu.move rfl) rfl rfl ?_
 refine RS.nil (hK4 _ _ ?_)
 refine T.block ?_
 refine T.seq fun K5 hK5 => ?_
 refine T.region ?_
 refine RS.p (Pu.bin rfl rfl rfl) rfl rfl ?_
 refine RS.p (Pu.assign rfl) rfl rfl ?_
 refine RS.nil (hK5 _ _ ?_)
 refine T.condP rfl (fun hc2 => ?_) (fun hc2 => ?_)
 ·have H := ifT hc2 H
  refine T.conseq (fr' := [(1, _), (5, _)]) ?_ ⟨rfl, rfl, trivial⟩ (fun _ s => s)
  refine T.region ?_
  refine RS.p (Pu.buildAr (cells := [_, _, _, _, _, _]) at117 rfl rfl) rfl rfl ?_
  obtain ⟨g3, H⟩ := gdE H
  refine RS.solid (Sd.stB (cs' := nums [2, 1, 3, 5, 0, 0]) (us := nums [2, 1, 3, 5, 0, 0]) 0 ty117 rfl rfl rfl (by first | rfl | simp [Value.cells]) (by simp [nums, (g3).2]) (by simp [nums, (g3).1]) (by simp [nums, Value.oneCell']) (by rw [List.take_zero, List.nil_append, List.drop_of_length_le (by simp [nums, (g3).1]), List.append_nil])) rfl rfl fun _ => ?_
  refine RS.nil (hK3 _ _ ?_)
  refine T.seq fun K6 hK6 => ?_
  refine T.region ?_
  refine RS.p (Pu.move rfl) rfl rfl ?_
  obtain ⟨g4, H⟩ := gdE H
  refine RS.p (Pu.indexAr ar117 rfl rfl (by have := g4; omega)) rfl rfl ?_
  refine RS.q (Qt.ldAr 0 ty3 rfl rfl rfl (by have := g4; omega)) rfl rfl ?_
  refine RS.p (Pu.assign rfl) rfl rfl ?_
  refine RS.nil (hK6 _ _ (T.conseq (fr' := [(4, _)]) ?_ ⟨rfl, trivial⟩ (fun _ s => s)))
  obtain rfl := Option.some.inj H
  refine T.retTo (by with_reducible ((repeat (first | apply RetTo.seq | apply RetTo.blk)); exact RetTo.refl _)) (Cont.ret1 rfl rfl fun w' s => ?_)
  exact ⟨rfl, s.ext⟩
 ·have H := ifF hc2 H
  refine T.conseq (fr' := [(1, _), (5, _), (6, _)]) ?_ ⟨rfl, rfl, rfl, trivial⟩ (fun _ s => s)
  refine T.seq fun K7 hK7 => ?_
  refine T.region ?_
  refine RS.p (Pu.bin rfl rfl rfl) rfl rfl ?_
  refine RS.p (Pu.assign rfl) rfl rfl ?_
  refine RS.nil (hK7 _ _ ?_)
  refine T.condP rfl (fun hc5 => ?_) (fun hc5 => ?_)
  ·have H := ifT hc5 H
   refine T.conseq (fr' := [(1, _), (5, _)]) ?_ ⟨rfl, rfl, trivial⟩ (fun _ s => s)
   refine T.region ?_
   refine RS.p (Pu.buildAr (cells := [_, _, _, _, _, _]) at117 rfl rfl) rfl rfl ?_
   obtain ⟨g6, H⟩ := gdE H
   refine RS.solid (Sd.stB (cs' := nums [2, 1, 6, 0, 0, 0]) (us := nums [2, 1, 6, 0, 0, 0]) 0 ty117 rfl rfl rfl (by first | rfl | simp [Value.cells]) (by simp [nums, (g6).2]) (by simp [nums, (g6).1]) (by simp [nums, Value.oneCell']) (by rw [List.take_zero, List.nil_append, List.drop_of_length_le (by simp [nums, (g6).1]), List.append_nil])) rfl rfl fun _ => ?_
   refine RS.nil (hK3 _ _ ?_)
   refine T.seq fun K8 hK8 => ?_
   refine T.region ?_
   refine RS.p (Pu.move rfl) rfl rfl ?_
   obtain ⟨g7, H⟩ := gdE H
   refine RS.p (Pu.indexAr ar117 rfl rfl (by have := g7; omega)) rfl rfl ?_
   refine RS.q (Qt.ldAr 0 ty3 rfl rfl rfl (by have := g7; omega)) rfl rfl ?_
   refine RS.p (Pu.assign rfl) rfl rfl ?_
   refine RS.nil (hK8 _ _ (T.conseq (fr' := [(4, _)]) ?_ ⟨rfl, trivial⟩ (fun _ s => s)))
   obtain rfl := Option.some.inj H
   refine T.retTo (by with_reducible ((repeat (first | apply RetTo.seq | apply RetTo.blk)); exact RetTo.refl _)) (Cont.ret1 rfl rfl fun w' s => ?_)
   exact ⟨rfl, s.ext⟩
  ·have H := ifF hc5 H
   refine T.conseq (fr' := [(1, _), (5, _)]) ?_ ⟨rfl, rfl, trivial⟩ (fun _ s => s)
   refine T.region ?_
   refine RS.p (Pu.buildAr (cells := [_, _, _, _, _, _]) at117 rfl rfl) rfl rfl ?_
   obtain ⟨g8, H⟩ := gdE H
   refine RS.solid (Sd.stB (cs' := nums [2, 1, 0, 3, 2, 0]) (us := nums [2, 1, 0, 3, 2, 0]) 0 ty117 rfl rfl rfl (by first | rfl | simp [Value.cells]) (by simp [nums, (g8).2]) (by simp [nums, (g8).1]) (by simp [nums, Value.oneCell']) (by rw [List.take_zero, List.nil_append, List.drop_of_length_le (by simp [nums, (g8).1]), List.append_nil])) rfl rfl fun _ => ?_
   refine RS.nil (hK3 _ _ ?_)
   refine T.seq fun K9 hK9 => ?_
   refine T.region ?_
   refine RS.p (Pu.move rfl) rfl rfl ?_
   obtain ⟨g9, H⟩ := gdE H
   refine RS.p (Pu.indexAr ar117 rfl rfl (by have := g9; omega)) rfl rfl ?_
   refine RS.q (Qt.ldAr 0 ty3 rfl rfl rfl (by have := g9; omega)) rfl rfl ?_
   refine RS.p (Pu.assign rfl) rfl rfl ?_
   refine RS.nil (hK9 _ _ (T.conseq (fr' := [(4, _)]) ?_ ⟨rfl, trivial⟩ (fun _ s => s)))
   obtain rfl := Option.some.inj H
   refine T.retTo (by with_reducible ((repeat (first | apply RetTo.seq | apply RetTo.blk)); exact RetTo.refl _)) (Cont.ret1 rfl rfl fun w' s => ?_)
   exact ⟨rfl, s.ext⟩
theorem ground_Ways_walk (w : World) {r : List Int} (H : ground_Ways = some r) : Calls Try.prog 118 #[] w fun e w' => e = .returned (.agg (nums r).toArray) ∧ Ext w w' := by
 unfold ground_Ways at H
 refine T.enter (args := []) (S := Sat w []) Try.func118 rfl rfl (Sat.start w) ?_
 refine T.seq fun K1 hK1 => ?_
 refine T.region ?_
 refine RS.solid (Sd.alloc (cs := nums (List.replicate 16 0)) zr132 rfl) rfl rfl fun b1 => ?_
 refine RS.nil (hK1 _ _ ?_)
 refine T.seq fun K2 hK2 => ?_
 refine T.region ?_
 refine RS.p (Pu.buildAr (cells := [_, _]) at131 rfl rfl) rfl rfl ?_
 refine RS.p (Pu.buildAr (cells := [_, _]) at131 rfl rfl) rfl rfl ?_
 refine RS.p (Pu.buildAr (cells := [_, _]) at131 rfl rfl) rfl rfl ?_
 refine RS.p (Pu.buildAr (cells := [_, _]) at131 rfl rfl) rfl rfl ?_
 refine RS.p (Pu.buildAr (cells := [_, _]) at131 rfl rfl) rfl rfl ?_
 refine RS.p (Pu.buildAr (cells := [_, _]) at131 rfl rfl) rfl rfl ?_
 refine RS.p (Pu.buildAr (cells := [_, _]) at131 rfl rfl) rfl rfl ?_
 refine RS.p (Pu.buildAr (cells := [_, _]) at131 rfl rfl) rfl rfl ?_
 refine RS.p (Pu.buildAr (cells := [_, _, _, _, _, _, _, _, _, _, _, _, _, _, _, _]) at132 rfl rfl) rfl rfl ?_
 obtain ⟨g2, H⟩ := gdE H
 refine RS.solid (Sd.stB (cs' := nums [0, (-1), 1, 0, 0, 1, (-1), 0, 1, (-1), 1, 1, (-1), 1, (-1), (-1)]) (us := nums [0, (-1), 1, 0, 0, 1, (-1), 0, 1, (-1), 1, 1, (-1), 1, (-1), (-1)]) 0 ty132 rfl rfl rfl (by first | rfl | simp [Value.cells]) (by simp [nums, (g2).2]) (by simp [nums, (g2).1]) (by simp [nums, Value.oneCell']) (by rw [List.take_zero, List.nil_append, List.drop_of_length_le (by simp [nums, (g2).1]), List.append_nil])) rfl rfl fun _ => ?_
 refine RS.nil (hK2 _ _ (T.conseq (fr' := [(0, _)]) ?_ ⟨rfl, trivial⟩ (fun _ s => s)))
 obtain ⟨g3, H⟩ := gdE H
 obtain rfl := Option.some.inj H
 refine T.retTo (by with_reducible ((repeat (first | apply RetTo.seq | apply RetTo.blk)); exact RetTo.refl _)) (Cont.retC 0 rfl ty132 rfl rfl (by simp [nums, g3]) fun w' s => ?_)
 exact ⟨rfl, s.ext⟩
theorem ground_Beside_walk (a0_g : Grd) (a1_t : Int) (w : World) {v0 : Value} (h0 : R (hpOf w) a0_g.tiles [v0]) {r : List Int} (H : ground_Beside a0_g a1_t = some r) : Calls Try.prog 104 #[.agg #[.int .i64 a0_g.w, .int .i64 a0_g.h, v0], .int .i64 a1_t] w fun e w' => e = .returned (.agg (nums r).toArray) ∧ Ext w w' := by
 have hm0 := R_max h0
 obtain ⟨p0, c0, rfl⟩ := R_form h0
 unfold ground_Beside at H
 refine T.enter (args := [_, _]) (S := Sat w []) Try.func104 rfl rfl (Sat.start w) ?_
 refine T.seq fun K1 hK1 => ?_
 refine T.region ?_
 refine RS.solid (Sd.box (cs := [_, _, _]) rfl rfl) rfl rfl fun b1 => ?_
 refine RS.solid (Sd.alloc (cs := nums (List.replicate 8 0)) zr95 rfl) rfl rfl fun b2 => ?_
 refine RS.nil (hK1 _ _ ?_)
 refine T.seq fun K2 hK2 => ?_
 refine T.drawn (fun _ => True) [(0, .pu), (1, .pu), (2, .rd), (3, .pu), (4, .pu), (5, .pu), (6, .rd), (7, .pu), (8, .pu), (9, .pu)] mixed (ClE.sat _ _) (by kernel_rfl) ?_
 refine RD.p (fun _ _ => trivial) rfl (Pu.move rfl) rfl rfl ?_
 refine RD.p (fun _ _ => trivial) rfl (Pu.fieldAddr fd24_0 rfl) rfl rfl ?_
 refine RD.q (fun _ _ => trivial) rfl (Qt.ldB 0 ty3 rfl rfl rfl) rfl rfl ?_
 obtain ⟨g3, H⟩ := gdE H
 refine RD.p (fun _ _ => trivial) rfl (Pu.remN rfl rfl (and3 g3)) rfl rfl ?_
 refine RD.p (fun _ _ => trivial) rfl (Pu.move rfl) rfl rfl ?_
 refine RD.p (fun _ _ => trivial) rfl (Pu.fieldAddr fd24_0 rfl) rfl rfl ?_
 refine RD.q (fun _ _ => trivial) rfl (Qt.ldB 0 ty3 rfl rfl rfl) rfl rfl ?_
 obtain ⟨g4, H⟩ := gdE H
 refine RD.p (fun _ _ => trivial) rfl (Pu.quoN rfl rfl g4) rfl rfl ?_
 refine RD.p (fun _ _ => trivial) rfl (Pu.assign rfl) rfl rfl ?_
 refine RD.p (fun _ _ => trivial) rfl (Pu.assign rfl) rfl rfl ?_
 refine RD.nil (hK2 _ _ (T.conseq (fr' := [(2, _), (4, _), (5, _), (6, _)]) ?_ ⟨rfl, rfl, rfl, rfl, trivial⟩ (fun _ s => s)))
 refine T.seq fun K3 hK3 => ?_
 refine T.seq fun K4 hK4 => ?_
 refine T.region ?_
 obtain ⟨x5, hx5, H⟩ := bindE H
 refine RS.q (Qt.call (vs := []) ent118 rfl fun w s => ground_Ways_walk  w  hx5) rfl rfl ?_
 refine RS.p (Pu.move rfl) rfl rfl ?_
 refine RS.nil (hK4 _ _ ?_)
 refine T.joinE (σ := List Int) (γ := Unit) H (fun s => s) [(4, _)] ⟨rfl, trivial⟩ (fun v7 _ => []) (fun v7 _ => Sat w [blk b1 [.int .i64 a0_g.w, .int .i64 a0_g.h, .slice p0 a0_g.tiles.length c0] 24, blk b2 (nums v7) 95]) ?_ ?_
 ·rintro v7 ⟨⟩ H
  try dsimp only [Ex.then] at H
  refine Cont.conseq (fr' := [(4, _)]) ?_ ⟨rfl, trivial⟩ (fun _ s => s)
  refine id (hK3 _ _ ?_)
  refine T.seq fun K5 hK5 => ?_
  refine T.region ?_
  obtain ⟨g8, H⟩ := gdE H
  refine RS.q (Qt.ldBA (us := nums v7) 1 ty95 rfl rfl (by rw [List.drop_zero]; exact List.take_of_length_le (by simp [nums, g8])) (by simp [nums, g8])) rfl rfl ?_
  obtain ⟨g9, H⟩ := gdE H
  refine RS.solid (Sd.stB (cs' := nums v7) (us := nums v7) 1 ty95 rfl rfl rfl (by first | rfl | simp [Value.cells]) (by simp [nums, (g9).2]) (by simp [nums, (g9).1]) (by simp [nums, Value.oneCell']) (by rw [List.take_zero, List.nil_append, List.drop_of_length_le (by simp [nums, (g9).1]), List.append_nil])) rfl rfl fun _ => ?_
  refine RS.nil (hK5 _ _ ?_)
  obtain ⟨g10, H⟩ := gdE H
  obtain rfl := Option.some.inj H
  refine T.retTo (by with_reducible ((repeat (first | apply RetTo.seq | apply RetTo.blk)); exact RetTo.refl _)) (Cont.retC 1 rfl ty95 rfl rfl (by simp [nums, g10]) fun w' s => ?_)
  exact ⟨rfl, s.ext⟩
 ·intro z6 hz6 HX6 hJ6
  refine T.block ?_
  refine T.loopA (γ := Unit) hz6 [(2, _), (4, _), (5, _), (6, _), (17, _)] (fun (v11, v12) _ => [(18, .int .i64 v11)]) (fun (v11, v12) _ => Sat w [blk b1 [.int .i64 a0_g.w, .int .i64 a0_g.h, .slice p0 a0_g.tiles.length c0] 24, blk b2 (nums v12) 95]) () ⟨rfl, rfl, rfl, rfl, rfl, trivial⟩ ⟨rfl, trivial⟩ (fun w s => s) ?_
  rintro ⟨v11, v12⟩ ⟨⟩ y13 H hd6 KL6 hL6
  try dsimp only [Ex.then] at H
  refine T.conseq (fr' := [(18, _), (2, _), (4, _), (5, _), (6, _), (17, _)]) ?_ ⟨rfl, rfl, rfl, rfl, rfl, rfl, trivial⟩ (fun _ s => s)
  refine T.seq fun K6 hK6 => ?_
  refine T.region ?_
  refine RS.p (Pu.bin rfl rfl rfl) rfl rfl ?_
  refine RS.nil (hK6 _ _ ?_)
  refine T.seq fun K7 hK7 => ?_
  refine T.condP rfl (fun hc14 => ?_) (fun hc14 => ?_)
  ·have H := ifT hc14 H
   refine T.skip (hK7 _ _ ?_)
   refine T.seq fun K8 hK8 => ?_
   refine T.block ?_
   refine T.seq fun K9 hK9 => ?_
   refine T.region ?_
   refine RS.p (Pu.move rfl) rfl rfl ?_
   obtain ⟨g15, H⟩ := gdE H
   refine RS.p (Pu.indexN2 (xs := x5) ar132 ty131 rfl rfl g15) rfl rfl ?_
   refine RS.solid (Sd.alloc zr131 rfl) rfl rfl fun b16 => ?_
   refine RS.p (Pu.assign rfl) rfl rfl ?_
   refine RS.solid (Sd.stB (cs' := [_, _]) 2 ty131 rfl rfl rfl rfl rfl rfl rfl rfl) rfl rfl fun _ => ?_
   refine RS.nil (hK9 _ _ (T.conseq (fr' := [(2, _), (4, _), (5, _), (6, _), (7, _), (8, _), (17, _), (18, _)]) ?_ ⟨rfl, rfl, rfl, rfl, rfl, rfl, rfl, rfl, trivial⟩ (fun _ s => s)))
   refine T.seq fun K10 hK10 => ?_
   refine T.region ?_
   refine RS.p (Pu.move rfl) rfl rfl ?_
   obtain ⟨g17, H⟩ := gdE H
   refine RS.p (Pu.indexAr ar95 rfl rfl (by have := g17; omega)) rfl rfl ?_
   refine RS.solid (Sd.stAr 1 ty3 rfl rfl rfl rfl (by have := g17; omega)) rfl rfl fun _ => ?_
   refine RS.nil (hK10 _ _ ?_)
   refine T.seq fun K11 hK11 => ?_
   refine T.region ?_
   refine RS.q (Qt.ldBA (us := [_, _, _]) 0 ty24 rfl rfl rfl rfl) rfl rfl ?_
   refine RS.p (Pu.move rfl) rfl rfl ?_
   refine RS.p (Pu.indexAr ar131 rfl rfl (by omega)) rfl rfl ?_
   refine RS.q (Qt.ldB 2 ty3 rfl rfl rfl) rfl rfl ?_
   obtain ⟨g18, H⟩ := gdE H
   refine RS.p (Pu.addS rfl rfl g18) rfl rfl ?_
   refine RS.p (Pu.move rfl) rfl rfl ?_
   refine RS.p (Pu.indexAr ar131 rfl rfl (by omega)) rfl rfl ?_
   refine RS.q (Qt.ldB 2 ty3 rfl rfl rfl) rfl rfl ?_
   obtain ⟨g19, H⟩ := gdE H
   refine RS.p (Pu.addS rfl rfl g19) rfl rfl ?_
   obtain ⟨x20, hx20, H⟩ := bindE H
   refine RS.q (Qt.call (vs := [.agg #[.int .i64 a0_g.w, .int .i64 a0_g.h, .slice p0 a0_g.tiles.length c0], .int .i64 ((a1_t % a0_g.w) + (gi x5 (2 * v11))), .int .i64 ((a1_t / a0_g.w) + (gi x5 (2 * v11 + 1)))]) ent119 rfl fun w s => ground_On_walk a0_g ((a1_t % a0_g.w) + (gi x5 (2 * v11))) ((a1_t / a0_g.w) + (gi x5 (2 * v11 + 1))) w ((Rd.base h0) w s) hx20) rfl rfl ?_
   refine RS.nil (hK11 _ _ ?_)
   refine T.cond rfl (fun hc21 => ?_) (fun hc21 => ?_)
   ·have H := ifT hc21 H
    refine T.conseq (fr' := [(2, _), (4, _), (5, _), (6, _), (7, _), (8, _), (17, _), (18, _)]) ?_ ⟨rfl, rfl, rfl, rfl, rfl, rfl, rfl, rfl, trivial⟩ (fun _ s => s)
    refine T.region ?_
    refine RS.p (Pu.move rfl) rfl rfl ?_
    refine RS.p (Pu.move rfl) rfl rfl ?_
    refine RS.p (Pu.indexAr ar131 rfl rfl (by omega)) rfl rfl ?_
    refine RS.q (Qt.ldB 2 ty3 rfl rfl rfl) rfl rfl ?_
    obtain ⟨g22, H⟩ := gdE H
    refine RS.p (Pu.addS rfl rfl g22) rfl rfl ?_
    refine RS.p (Pu.fieldAddr fd24_0 rfl) rfl rfl ?_
    refine RS.q (Qt.ldB 0 ty3 rfl rfl rfl) rfl rfl ?_
    refine RS.p (Pu.move rfl) rfl rfl ?_
    refine RS.p (Pu.indexAr ar131 rfl rfl (by omega)) rfl rfl ?_
    refine RS.q (Qt.ldB 2 ty3 rfl rfl rfl) rfl rfl ?_
    obtain ⟨g23, H⟩ := gdE H
    refine RS.p (Pu.addS rfl rfl g23) rfl rfl ?_
    obtain ⟨g24, H⟩ := gdE H
    refine RS.p (Pu.mulS rfl rfl g24) rfl rfl ?_
    obtain ⟨g25, H⟩ := gdE H
    refine RS.p (Pu.addS rfl rfl g25) rfl rfl ?_
    obtain ⟨g26, H⟩ := gdE H
    refine RS.p (Pu.indexAr ar95 rfl rfl (by have := g26; omega)) rfl rfl ?_
    refine RS.solid (Sd.stAr 1 ty3 rfl rfl rfl rfl (by have := g26; omega)) rfl rfl fun _ => ?_
    refine RS.nil (hK8 _ _ (T.conseq (fr' := [(2, _), (4, _), (5, _), (6, _), (17, _), (18, _)]) ?_ ⟨rfl, rfl, rfl, rfl, rfl, rfl, trivial⟩ (fun _ s => s)))
    refine T.region ?_
    obtain ⟨g27, H⟩ := gdE H
    refine RS.p (Pu.addS rfl rfl g27) rfl rfl ?_
    refine RS.p (Pu.move rfl) rfl rfl ?_
    refine RS.nil (hL6 _ _ ((v11 + 1), (si (si v12 v11 (-1)) v11 (((a1_t % a0_g.w) + (gi x5 (2 * v11))) + (a0_g.w * ((a1_t / a0_g.w) + (gi x5 (2 * v11 + 1))))))) () H ⟨rfl, rfl, rfl, rfl, rfl, trivial⟩ ⟨rfl, trivial⟩ (fun w s => s.pick [0, 1] (by decide) rfl))
   ·have H := ifB hc21 H
    refine T.skip (hK8 _ _ (T.conseq (fr' := [(2, _), (4, _), (5, _), (6, _), (17, _), (18, _)]) ?_ ⟨rfl, rfl, rfl, rfl, rfl, rfl, trivial⟩ (fun _ s => s)))
    refine T.region ?_
    obtain ⟨g28, H⟩ := gdE H
    refine RS.p (Pu.addS rfl rfl g28) rfl rfl ?_
    refine RS.p (Pu.move rfl) rfl rfl ?_
    refine RS.nil (hL6 _ _ ((v11 + 1), (si v12 v11 (-1))) () H ⟨rfl, rfl, rfl, rfl, rfl, trivial⟩ ⟨rfl, trivial⟩ (fun w s => s.pick [0, 1] (by decide) rfl))
  ·have H := ifF hc14 H
   obtain rfl := hd6 _ H
   refine T.exitTo (by with_reducible (repeat (first | exact ExTo.here | exact ExTo.hereN | exact ExTo.deep (by repeat (first | exact NmTo.seq | apply NmTo.blk)) | apply ExTo.seq | refine ExTo.past (by decide) ?_))) (hJ6 _ _ v12 () HX6 ⟨rfl, trivial⟩ trivial (fun w s => s))
theorem clear_pass_walk {w0 : World} {F : Ch} (a0_g : Grd) (a1_k : List Int) (a2_t : Int) (a3_ways : List Pr2) {q0 : Option Nat × Nat} {m0 : Nat} (hm : m0 = a1_k.length) {v0 v1 : Value} (h0 : Rd (Sat w0 [F]) a0_g.tiles [v0]) (h1 : Rd (Sat w0 [F]) a3_ways [v1]) {r : List Int} (H : clear_pass a0_g a1_k a2_t a3_ways = some r) (w : World) (s : Sat w0 [row nilH 3 (rowV q0 m0) a1_k, F] w) : Calls Try.prog 124 #[.agg #[.int .i64 a0_g.w, .int .i64 a0_g.h, v0], rowV q0 m0, .int .i64 a2_t, v1] w fun e w' => e = .returned (.tuple #[]) ∧ Sat w0 [row nilH 3 (rowV q0 m0) r, F] w' := by
 have hm0 := R_max (h0 w (s.pick [1] (by decide) rfl))
 obtain ⟨p0, c0, rfl⟩ := R_form (h0 w (s.pick [1] (by decide) rfl))
 subst hm
 have hm1 := R_max (h1 w (s.pick [1] (by decide) rfl))
 obtain ⟨p1, c1, rfl⟩ := R_form (h1 w (s.pick [1] (by decide) rfl))
 unfold clear_pass at H
 refine T.enter (args := [_, _, _, _]) (S := Sat w0 [row nilH 3 (rowV q0 a1_k.length) a1_k, F]) Try.func124 rfl rfl (s) ?_
 refine T.seq fun K1 hK1 => ?_
 refine T.region ?_
 refine RS.solid (Sd.box (cs := [_, _, _]) rfl rfl) rfl rfl fun b1 => ?_
 refine RS.nil (hK1 _ _ ?_)
 refine T.seq fun K2 hK2 => ?_
 refine T.drawn (fun _ => True) [(0, .pu), (1, .pu), (2, .rd), (3, .pu), (4, .pu), (5, .pu), (6, .rd), (7, .pu), (8, .pu), (9, .pu)] mixed (ClE.sat _ _) (by kernel_rfl) ?_
 refine RD.p (fun _ _ => trivial) rfl (Pu.move rfl) rfl rfl ?_
 refine RD.p (fun _ _ => trivial) rfl (Pu.fieldAddr fd24_0 rfl) rfl rfl ?_
 refine RD.q (fun _ _ => trivial) rfl (Qt.ldB 2 ty3 rfl rfl rfl) rfl rfl ?_
 obtain ⟨g2, H⟩ := gdE H
 refine RD.p (fun _ _ => trivial) rfl (Pu.remN rfl rfl (and3 g2)) rfl rfl ?_
 refine RD.p (fun _ _ => trivial) rfl (Pu.move rfl) rfl rfl ?_
 refine RD.p (fun _ _ => trivial) rfl (Pu.fieldAddr fd24_0 rfl) rfl rfl ?_
 refine RD.q (fun _ _ => trivial) rfl (Qt.ldB 2 ty3 rfl rfl rfl) rfl rfl ?_
 obtain ⟨g3, H⟩ := gdE H
 refine RD.p (fun _ _ => trivial) rfl (Pu.quoN rfl rfl g3) rfl rfl ?_
 refine RD.p (fun _ _ => trivial) rfl (Pu.assign rfl) rfl rfl ?_
 refine RD.p (fun _ _ => trivial) rfl (Pu.assign rfl) rfl rfl ?_
 refine RD.nil (hK2 _ _ (T.conseq (fr' := [(1, _), (2, _), (3, _), (4, _), (8, _), (9, _)]) ?_ ⟨rfl, rfl, rfl, rfl, rfl, rfl, trivial⟩ (fun _ s => s)))
 refine T.seq fun K3 hK3 => ?_
 refine T.region ?_
 refine RS.p (Pu.move rfl) rfl rfl ?_
 refine RS.p (Pu.lenSl sl138 rfl) rfl rfl ?_
 refine RS.p (Pu.move rfl) rfl rfl ?_
 refine RS.nil (hK3 _ _ ?_)
 refine T.joinE (σ := List Int) (γ := Unit) H (fun s => s) [] trivial (fun v5 _ => []) (fun v5 _ => Sat w0 [row nilH 3 (rowV q0 a1_k.length) v5, F, blk b1 [.int .i64 a0_g.w, .int .i64 a0_g.h, .slice p0 a0_g.tiles.length c0] 24]) ?_ ?_
 ·rintro v5 ⟨⟩ H
  try dsimp only [Ex.then] at H
  refine Cont.conseq (fr' := []) ?_ trivial (fun _ s => s)
  obtain rfl := Option.some.inj H
  refine id (Cont.end0 rfl fun w' s => ?_)
  exact ⟨rfl, s.pick [0, 1] (by decide) rfl⟩
 ·intro z4 hz4 HX4 hJ4
  refine T.block ?_
  refine T.loopA (γ := Unit) hz4 [(1, _), (2, _), (4, _), (8, _), (9, _), (21, _), (22, _)] (fun (v6, l7) _ => [(23, .int .i64 v6)]) (fun (v6, l7) _ => Sat w0 [row nilH 3 (rowV q0 a1_k.length) l7, F, blk b1 [.int .i64 a0_g.w, .int .i64 a0_g.h, .slice p0 a0_g.tiles.length c0] 24]) () ⟨rfl, rfl, rfl, rfl, rfl, rfl, rfl, trivial⟩ ⟨rfl, trivial⟩ (fun w s => s) ?_
  rintro ⟨v6, l7⟩ ⟨⟩ y8 H hd4 KL4 hL4
  try dsimp only [Ex.then] at H
  refine T.conseq (fr' := [(23, _), (1, _), (2, _), (4, _), (8, _), (9, _), (21, _), (22, _)]) ?_ ⟨rfl, rfl, rfl, rfl, rfl, rfl, rfl, rfl, trivial⟩ (fun _ s => s)
  refine T.seq fun K4 hK4 => ?_
  refine T.region ?_
  refine RS.p (Pu.bin rfl rfl rfl) rfl rfl ?_
  refine RS.nil (hK4 _ _ ?_)
  refine T.seq fun K5 hK5 => ?_
  refine T.condP rfl (fun hc9 => ?_) (fun hc9 => ?_)
  ·have H := ifT hc9 H
   refine T.skip (hK5 _ _ ?_)
   refine T.seq fun K6 hK6 => ?_
   refine T.block ?_
   refine T.seq fun K7 hK7 => ?_
   refine T.region ?_
   obtain ⟨g10, H⟩ := gdE H
   refine RS.know (p := ∃ bl ol, p1 = some ⟨bl, ol, none⟩) (fun w s => R_ptr (h1 w (s.pick [1] (by decide) rfl)) (ne_of_pos (pos_of g10))) ?_
   rintro ⟨bl11, ol12, rfl⟩
   refine RS.p (Pu.indexSl sl138 rfl rfl g10) rfl rfl ?_
   refine RS.q (Qt.ldW (α := Pr2) (cs := [_, _]) (Rd.ofFrame 1 rfl h1) ty131 rfl rfl g10 rfl (by rintro _ _ rfl; rfl)) rfl rfl ?_
   refine RS.solid (Sd.alloc zr131 rfl) rfl rfl fun b13 => ?_
   refine RS.solid (Sd.stB (cs' := [_, _]) 3 ty131 rfl rfl rfl rfl rfl rfl rfl rfl) rfl rfl fun _ => ?_
   refine RS.nil (hK7 _ _ (T.conseq (fr' := [(1, _), (2, _), (4, _), (8, _), (9, _), (11, _), (21, _), (22, _), (23, _)]) ?_ ⟨rfl, rfl, rfl, rfl, rfl, rfl, rfl, rfl, rfl, trivial⟩ (fun _ s => s)))
   refine T.seq fun K8 hK8 => ?_
   refine T.region ?_
   refine RS.p (Pu.assign rfl) rfl rfl ?_
   refine RS.nil (hK8 _ _ ?_)
   refine T.seq fun K9 hK9 => ?_
   refine T.seq fun K10 hK10 => ?_
   refine T.region ?_
   refine RS.q (Qt.ldBA (us := [_, _, _]) 2 ty24 rfl rfl rfl rfl) rfl rfl ?_
   refine RS.p (Pu.move rfl) rfl rfl ?_
   refine RS.p (Pu.indexAr ar131 rfl rfl (by omega)) rfl rfl ?_
   refine RS.q (Qt.ldB 3 ty3 rfl rfl rfl) rfl rfl ?_
   obtain ⟨g14, H⟩ := gdE H
   refine RS.p (Pu.addS rfl rfl g14) rfl rfl ?_
   refine RS.p (Pu.move rfl) rfl rfl ?_
   refine RS.p (Pu.indexAr ar131 rfl rfl (by omega)) rfl rfl ?_
   refine RS.q (Qt.ldB 3 ty3 rfl rfl rfl) rfl rfl ?_
   obtain ⟨g15, H⟩ := gdE H
   refine RS.p (Pu.addS rfl rfl g15) rfl rfl ?_
   obtain ⟨x16, hx16, H⟩ := bindE H
   refine RS.q (Qt.call (vs := [.agg #[.int .i64 a0_g.w, .int .i64 a0_g.h, .slice p0 a0_g.tiles.length c0], .int .i64 ((a2_t % a0_g.w) + ((gi a3_ways v6).a)), .int .i64 ((a2_t / a0_g.w) + ((gi a3_ways v6).b))]) ent119 rfl fun w s => ground_On_walk a0_g ((a2_t % a0_g.w) + ((gi a3_ways v6).a)) ((a2_t / a0_g.w) + ((gi a3_ways v6).b)) w ((Rd.ofFrame 1 rfl h0) w s) hx16) rfl rfl ?_
   refine RS.nil (hK10 _ _ ?_)
   refine T.joinE (σ := Int) (γ := Unit) H (fun s => s) [(1, _), (2, _), (4, _), (8, _), (9, _), (21, _), (22, _), (23, _)] ⟨rfl, rfl, rfl, rfl, rfl, rfl, rfl, rfl, trivial⟩ (fun v18 _ => [(12, .int .i64 v18)]) (fun v18 _ => Sat w0 [row nilH 3 (rowV q0 a1_k.length) l7, F, blk b1 [.int .i64 a0_g.w, .int .i64 a0_g.h, .slice p0 a0_g.tiles.length c0] 24, blk b13 [.int .i64 ((gi a3_ways v6).a), .int .i64 ((gi a3_ways v6).b)] 131]) ?_ ?_
   ·rintro v18 ⟨⟩ H
    try dsimp only [Ex.then] at H
    refine Cont.conseq (fr' := [(12, _), (1, _), (2, _), (4, _), (8, _), (9, _), (21, _), (22, _), (23, _)]) ?_ ⟨rfl, rfl, rfl, rfl, rfl, rfl, rfl, rfl, rfl, trivial⟩ (fun _ s => s)
    refine id (hK9 _ _ ?_)
    refine T.region ?_
    refine RS.p (Pu.move rfl) rfl rfl ?_
    refine RS.p (Pu.move rfl) rfl rfl ?_
    refine RS.p (Pu.move rfl) rfl rfl ?_
    refine RS.p (Pu.move rfl) rfl rfl ?_
    obtain ⟨g19, H⟩ := gdE H
    refine RS.know (fun w s => s.row_fits (q := q0) (m := a1_k.length) (k := 0) rfl) fun hf20 => ?_
    refine RS.know (p := ∃ g cap, q0 = (some g, cap)) (fun w s => s.row_some (k := 0) rfl (pos_of (idx_of hf20.1 g19))) ?_
    rintro ⟨gg21, cc22, rfl⟩
    refine RS.p (Pu.indexSl sl26 rfl rfl g19) rfl rfl ?_
    refine RS.q (Qt.ld0 (α := Int) (Rd.ofRowN 0 rfl) ty3 rfl rfl (idx_of hf20.1 g19) (by rintro _ _ rfl; rfl)) rfl rfl ?_
    refine RS.p (Pu.move rfl) rfl rfl ?_
    obtain ⟨g23, H⟩ := gdE H
    refine RS.p (Pu.addS rfl rfl g23) rfl rfl ?_
    refine RS.p (Pu.minI rfl rfl) rfl rfl ?_
    obtain ⟨g24, H⟩ := gdE H
    refine RS.know (fun w s => s.row_fits (q := (some gg21, cc22)) (m := a1_k.length) (k := 0) rfl) fun hf25 => ?_
    refine RS.p (Pu.indexSl sl26 rfl rfl g24) rfl rfl ?_
    refine RS.solid (Sd.st0 (α := Int) 0 (min (gi l7 a2_t) (v18 + 1)) rfl ty3 rfl rfl rfl (idx_of hf25.1 g24) rfl rfl (by decide) rfl (by rintro _ _ rfl; rfl)) rfl rfl fun _ => ?_
    refine RS.nil (hK6 _ _ (T.conseq (fr' := [(1, _), (2, _), (4, _), (8, _), (9, _), (21, _), (22, _), (23, _)]) ?_ ⟨rfl, rfl, rfl, rfl, rfl, rfl, rfl, rfl, trivial⟩ (fun _ s => s)))
    refine T.region ?_
    obtain ⟨g26, H⟩ := gdE H
    refine RS.p (Pu.addS rfl rfl g26) rfl rfl ?_
    refine RS.p (Pu.move rfl) rfl rfl ?_
    refine RS.nil (hL4 _ _ ((v6 + 1), (si l7 a2_t (min (gi l7 a2_t) (v18 + 1)))) () H ⟨rfl, rfl, rfl, rfl, rfl, rfl, rfl, trivial⟩ ⟨rfl, trivial⟩ (fun w s => s.pick [0, 1, 2] (by decide) rfl))
   ·intro z17 H HX17 hJ17
    refine T.cond rfl (fun hc27 => ?_) (fun hc27 => ?_)
    ·have H := ifT hc27 H
     refine T.conseq (fr' := [(1, _), (2, _), (4, _), (8, _), (9, _), (11, _), (21, _), (22, _), (23, _)]) ?_ ⟨rfl, rfl, rfl, rfl, rfl, rfl, rfl, rfl, rfl, trivial⟩ (fun _ s => s)
     refine T.region ?_
     refine RS.p (Pu.move rfl) rfl rfl ?_
     refine RS.p (Pu.move rfl) rfl rfl ?_
     refine RS.p (Pu.indexAr ar131 rfl rfl (by omega)) rfl rfl ?_
     refine RS.q (Qt.ldB 3 ty3 rfl rfl rfl) rfl rfl ?_
     obtain ⟨g28, H⟩ := gdE H
     refine RS.p (Pu.addS rfl rfl g28) rfl rfl ?_
     refine RS.p (Pu.fieldAddr fd24_0 rfl) rfl rfl ?_
     refine RS.q (Qt.ldB 2 ty3 rfl rfl rfl) rfl rfl ?_
     refine RS.p (Pu.move rfl) rfl rfl ?_
     refine RS.p (Pu.indexAr ar131 rfl rfl (by omega)) rfl rfl ?_
     refine RS.q (Qt.ldB 3 ty3 rfl rfl rfl) rfl rfl ?_
     obtain ⟨g29, H⟩ := gdE H
     refine RS.p (Pu.addS rfl rfl g29) rfl rfl ?_
     obtain ⟨g30, H⟩ := gdE H
     refine RS.p (Pu.mulS rfl rfl g30) rfl rfl ?_
     obtain ⟨g31, H⟩ := gdE H
     refine RS.p (Pu.addS rfl rfl g31) rfl rfl ?_
     obtain ⟨g32, H⟩ := gdE H
     refine RS.know (fun w s => s.row_fits (q := q0) (m := a1_k.length) (k := 0) rfl) fun hf33 => ?_
     refine RS.know (p := ∃ g cap, q0 = (some g, cap)) (fun w s => s.row_some (k := 0) rfl (pos_of (idx_of hf33.1 g32))) ?_
     rintro ⟨gg34, cc35, rfl⟩
     refine RS.p (Pu.indexSl sl26 rfl rfl g32) rfl rfl ?_
     refine RS.q (Qt.ld0 (α := Int) (Rd.ofRowN 0 rfl) ty3 rfl rfl (idx_of hf33.1 g32) (by rintro _ _ rfl; rfl)) rfl rfl ?_
     refine RS.p (Pu.assign rfl) rfl rfl ?_
     obtain rfl := Option.some.inj H
     refine RS.nil (hJ17 _ _ (gi l7 (((a2_t % a0_g.w) + ((gi a3_ways v6).a)) + (a0_g.w * ((a2_t / a0_g.w) + ((gi a3_ways v6).b))))) () HX17 ⟨rfl, rfl, rfl, rfl, rfl, rfl, rfl, rfl, trivial⟩ ⟨rfl, trivial⟩ (fun w s => s))
    ·have H := ifB hc27 H
     obtain rfl := Option.some.inj H
     refine T.skip (hJ17 _ _ 0 () HX17 ⟨rfl, rfl, rfl, rfl, rfl, rfl, rfl, rfl, trivial⟩ ⟨rfl, trivial⟩ (fun w s => s))
  ·have H := ifF hc9 H
   obtain rfl := hd4 _ H
   refine T.exitTo (by with_reducible (repeat (first | exact ExTo.here | exact ExTo.hereN | exact ExTo.deep (by repeat (first | exact NmTo.seq | apply NmTo.blk)) | apply ExTo.seq | refine ExTo.past (by decide) ?_))) (hJ4 _ _ l7 () HX4 trivial trivial (fun w s => s))
theorem clear_Tiles_walk (a0_g : Grd) (a1_l : List Bld) (a2_class : Int) (w : World) {v0 v1 : Value} (h0 : R (hpOf w) a0_g.tiles [v0]) (h1 : R (hpOf w) a1_l [v1]) {r : List Bool} (H : clear_Tiles a0_g a1_l a2_class = some r) : Calls Try.prog 123 #[.agg #[.int .i64 a0_g.w, .int .i64 a0_g.h, v0], v1, .int .i64 a2_class] w fun e w' => ∃ q1 : (Option Nat × Nat), e = .returned (rowV q1 r.length) ∧ Sat w [row nilH 4 (rowV q1 r.length) r] w' := by
 have hm0 := R_max h0
 obtain ⟨p0, c0, rfl⟩ := R_form h0
 have hm1 := R_max h1
 obtain ⟨p1, c1, rfl⟩ := R_form h1
 unfold clear_Tiles at H
 refine T.enter (args := [_, _, _]) (S := Sat w []) Try.func123 rfl rfl (Sat.start w) ?_
 refine T.seq fun K1 hK1 => ?_
 refine T.region ?_
 refine RS.solid (Sd.box (cs := [_, _, _]) rfl rfl) rfl rfl fun b1 => ?_
 refine RS.p (Pu.assign rfl) rfl rfl ?_
 refine RS.nil (hK1 _ _ ?_)
 refine T.seq fun K2 hK2 => ?_
 refine T.region ?_
 refine RS.q (Qt.ldBA (us := [_, _, _]) 0 ty24 rfl rfl rfl rfl) rfl rfl ?_
 refine RS.p (Pu.move rfl) rfl rfl ?_
 obtain ⟨x2, hx2, H⟩ := bindE H
 refine RS.solid (Sd.callN (vs := [.agg #[.int .i64 a0_g.w, .int .i64 a0_g.h, .slice p0 a0_g.tiles.length c0], .slice p1 a1_l.length c1]) ent62 rfl (fun w s => build_Cover_walk a0_g a1_l w ((Rd.base h0) w s) ((Rd.base h1) w s) hx2)) rfl rfl fun q3 => ?_
 refine RS.p (Pu.assign rfl) rfl rfl ?_
 refine RS.nil (hK2 _ _ (T.conseq (fr' := [(2, _), (3, _), (7, _)]) ?_ ⟨rfl, rfl, rfl, trivial⟩ (fun _ s => s)))
 refine T.seq fun K3 hK3 => ?_
 refine T.seq fun K4 hK4 => ?_
 refine T.region ?_
 refine RS.p (Pu.move rfl) rfl rfl ?_
 refine RS.p (Pu.lenSl sl45 rfl) rfl rfl ?_
 refine RS.p (Pu.move rfl) rfl rfl ?_
 refine RS.nil (hK4 _ _ ?_)
 refine T.joinE (σ := List Bool) (γ := Unit) H (fun s => s) [(7, _)] ⟨rfl, trivial⟩ (fun v5 _ => []) (fun v5 _ => Sat w [blk b1 [.int .i64 a0_g.w, .int .i64 a0_g.h, .slice p0 a0_g.tiles.length c0] 24, row nilH 4 (rowV q3 x2.length) v5]) ?_ ?_
 ·rintro v5 ⟨⟩ H
  try dsimp only [Ex.then] at H
  refine Cont.conseq (fr' := [(7, _)]) ?_ ⟨rfl, trivial⟩ (fun _ s => s)
  refine id (hK3 _ _ ?_)
  refine T.seq fun K5 hK5 => ?_
  refine T.region ?_
  refine RS.p (Pu.move rfl) rfl rfl ?_
  refine RS.p (Pu.assign rfl) rfl rfl ?_
  refine RS.nil (hK5 _ _ ?_)
  obtain rfl := Option.some.inj H
  refine T.retTo (by with_reducible ((repeat (first | apply RetTo.seq | apply RetTo.blk)); exact RetTo.refl _)) (Cont.ret1 rfl rfl fun w' s => ?_)
  exact ⟨q3, (by simp only [(s.row_fits (q := q3) (m := x2.length) (k := 1) rfl).1]; try rfl), (Sat.relen (q := q3) (m := x2.length) 1 s rfl).pick [1] (by decide) rfl⟩
 ·intro z4 hz4 HX4 hJ4
  refine T.block ?_
  refine T.loopA (γ := Unit) hz4 [(2, _), (3, _), (7, _), (13, _), (14, _)] (fun (v6, l7) _ => [(15, .int .i64 v6)]) (fun (v6, l7) _ => Sat w [blk b1 [.int .i64 a0_g.w, .int .i64 a0_g.h, .slice p0 a0_g.tiles.length c0] 24, row nilH 4 (rowV q3 x2.length) l7]) () ⟨rfl, rfl, rfl, rfl, rfl, trivial⟩ ⟨rfl, trivial⟩ (fun w s => s) ?_
  rintro ⟨v6, l7⟩ ⟨⟩ y8 H hd4 KL4 hL4
  try dsimp only [Ex.then] at H
  refine T.conseq (fr' := [(15, _), (2, _), (3, _), (7, _), (13, _), (14, _)]) ?_ ⟨rfl, rfl, rfl, rfl, rfl, rfl, trivial⟩ (fun _ s => s)
  refine T.seq fun K6 hK6 => ?_
  refine T.region ?_
  refine RS.p (Pu.bin rfl rfl rfl) rfl rfl ?_
  refine RS.nil (hK6 _ _ ?_)
  refine T.seq fun K7 hK7 => ?_
  refine T.condP rfl (fun hc9 => ?_) (fun hc9 => ?_)
  ·have H := ifT hc9 H
   refine T.skip (hK7 _ _ ?_)
   refine T.seq fun K8 hK8 => ?_
   refine T.block ?_
   refine T.seq fun K9 hK9 => ?_
   refine T.region ?_
   refine RS.p (Pu.move rfl) rfl rfl ?_
   obtain ⟨g10, H⟩ := gdE H
   refine RS.know (fun w s => s.row_fits (q := q3) (m := x2.length) (k := 1) rfl) fun hf11 => ?_
   refine RS.know (p := ∃ g cap, q3 = (some g, cap)) (fun w s => s.row_some (k := 1) rfl (pos_of (idx_of hf11.1 g10))) ?_
   rintro ⟨gg12, cc13, rfl⟩
   refine RS.p (Pu.indexSl sl45 rfl rfl g10) rfl rfl ?_
   refine RS.q (Qt.ld0 (α := Bool) (Rd.ofRowN 1 rfl) ty4 rfl rfl (idx_of hf11.1 g10) (by rintro _ _ rfl; rfl)) rfl rfl ?_
   refine RS.p (Pu.assign rfl) rfl rfl ?_
   refine RS.p (Pu.assign rfl) rfl rfl ?_
   refine RS.nil (hK9 _ _ (T.conseq (fr' := [(2, _), (3, _), (7, _), (8, _), (9, _), (13, _), (14, _), (15, _)]) ?_ ⟨rfl, rfl, rfl, rfl, rfl, rfl, rfl, rfl, trivial⟩ (fun _ s => s)))
   refine T.region ?_
   refine RS.p (Pu.move rfl) rfl rfl ?_
   refine RS.p (Pu.move rfl) rfl rfl ?_
   refine RS.p (Pu.move rfl) rfl rfl ?_
   refine RS.p (Pu.not rfl) rfl rfl ?_
   refine RS.p (Pu.move rfl) rfl rfl ?_
   refine RS.joinB H 9 33 (fun b16 => .bool b16) [(2, _), (3, _), (7, _), (13, _), (14, _), (15, _), (20, _), (21, _)] ⟨rfl, rfl, rfl, rfl, rfl, rfl, rfl, rfl, trivial⟩ ?_ ?_
   ·intro b16 H
    obtain ⟨g17, H⟩ := gdE H
    refine RS.know (fun w s => s.row_fits (q := (some gg12, cc13)) (m := x2.length) (k := 1) rfl) fun hf18 => ?_
    refine RS.p (Pu.indexSl sl45 rfl rfl g17) rfl rfl ?_
    refine RS.solid (Sd.st0 (α := Bool) 1 b16 rfl ty4 rfl rfl rfl (idx_of hf18.1 g17) rfl rfl (by decide) rfl (by rintro _ _ rfl; rfl)) rfl rfl fun _ => ?_
    refine RS.nil (hK8 _ _ (T.conseq (fr' := [(2, _), (3, _), (7, _), (13, _), (14, _), (15, _)]) ?_ ⟨rfl, rfl, rfl, rfl, rfl, rfl, trivial⟩ (fun _ s => s)))
    refine T.region ?_
    obtain ⟨g19, H⟩ := gdE H
    refine RS.p (Pu.addS rfl rfl g19) rfl rfl ?_
    refine RS.p (Pu.move rfl) rfl rfl ?_
    refine RS.nil (hL4 _ _ ((v6 + 1), (si l7 v6 b16)) () H ⟨rfl, rfl, rfl, rfl, rfl, trivial⟩ ⟨rfl, trivial⟩ (fun w s => s))
   ·intro z20 H hJ15
    refine RS.split 24 rfl (fun hc14 => ?_) (fun hc14 => ?_)
    ·have H := ifT hc14 H
     refine RS.p (Pu.move rfl) rfl rfl ?_
     refine RS.p (Pu.fieldAddr fd24_2 rfl) rfl rfl ?_
     refine RS.q (Qt.ldB 0 ty22 rfl rfl rfl) rfl rfl ?_
     refine RS.p (Pu.move rfl) rfl rfl ?_
     obtain ⟨g21, H⟩ := gdE H
     obtain ⟨bl22, ol23, rfl⟩ := R_ptr h0 (ne_of_pos (pos_of g21))
     refine RS.p (Pu.indexSl sl22 rfl rfl g21) rfl rfl ?_
     refine RS.q (Qt.ld0 (α := UInt8) (Rd.base h0) ty5 rfl rfl g21 (by rintro _ _ rfl; rfl)) rfl rfl ?_
     obtain ⟨x24, hx24, H⟩ := bindE H
     refine RS.q (Qt.call (vs := [.int .i64 a2_class, .int .u8 ((gi a0_g.tiles v6).toNat : Int)]) ent120 rfl fun w s => kind_Price_walk a2_class ((gi a0_g.tiles v6).toNat : Int) w  hx24) rfl rfl ?_
     refine RS.p (Pu.bin rfl rfl rfl) rfl rfl ?_
     refine RS.p (Pu.pickT rfl rfl) rfl rfl ?_
     obtain rfl := Option.some.inj H
     exact hJ15 _ _ ⟨rfl, rfl, rfl, rfl, rfl, rfl, rfl, rfl, rfl, trivial⟩ (fun w s => s)
    ·have H := ifB hc14 H
     refine RS.no rfl rfl ?_
     refine RS.no rfl rfl ?_
     refine RS.no rfl rfl ?_
     refine RS.no rfl rfl ?_
     refine RS.no rfl rfl ?_
     refine RS.no rfl rfl ?_
     refine RS.no rfl rfl ?_
     refine RS.no rfl rfl ?_
     refine RS.p (Pu.pickF rfl rfl) rfl rfl ?_
     obtain rfl := Option.some.inj H
     exact hJ15 _ _ ⟨rfl, rfl, rfl, rfl, rfl, rfl, rfl, rfl, rfl, trivial⟩ (fun w s => s)
  ·have H := ifF hc9 H
   obtain rfl := hd4 _ H
   refine T.exitTo (by with_reducible (repeat (first | exact ExTo.here | exact ExTo.hereN | exact ExTo.deep (by repeat (first | exact NmTo.seq | apply NmTo.blk)) | apply ExTo.seq | refine ExTo.past (by decide) ?_))) (hJ4 _ _ l7 () HX4 ⟨rfl, trivial⟩ trivial (fun w s => s))
theorem clear_Room_walk (a0_g : Grd) (a1_l : List Bld) (a2_class : Int) (w : World) {v0 v1 : Value} (h0 : R (hpOf w) a0_g.tiles [v0]) (h1 : R (hpOf w) a1_l [v1]) {r : List Int} (H : clear_Room a0_g a1_l a2_class = some r) : Calls Try.prog 108 #[.agg #[.int .i64 a0_g.w, .int .i64 a0_g.h, v0], v1, .int .i64 a2_class] w fun e w' => ∃ q1 : (Option Nat × Nat), e = .returned (rowV q1 r.length) ∧ Sat w [row nilH 3 (rowV q1 r.length) r] w' := by
 have hm0 := R_max h0
 obtain ⟨p0, c0, rfl⟩ := R_form h0
 have hm1 := R_max h1
 obtain ⟨p1, c1, rfl⟩ := R_form h1
 unfold clear_Room at H
 refine T.enter (args := [_, _, _]) (S := Sat w []) Try.func108 rfl rfl (Sat.start w) ?_
 refine T.seq fun K1 hK1 => ?_
 refine T.region ?_
 refine RS.solid (Sd.box (cs := [_, _, _]) rfl rfl) rfl rfl fun b1 => ?_
 refine RS.p (Pu.assign rfl) rfl rfl ?_
 refine RS.nil (hK1 _ _ ?_)
 refine T.seq fun K2 hK2 => ?_
 refine T.region ?_
 refine RS.p (Pu.fieldAddr fd24_2 rfl) rfl rfl ?_
 refine RS.q (Qt.ldB 0 ty22 rfl rfl rfl) rfl rfl ?_
 refine RS.p (Pu.lenSl sl22 rfl) rfl rfl ?_
 obtain ⟨g3, H⟩ := gdE H
 refine RS.solid (Sd.make (α := Int) (B := nilH) 0 sl26 zr3 rfl (by decide) rfl rfl (by omega) (by omega) (by omega)) rfl rfl fun b2 => ?_
 refine RS.p (Pu.assign rfl) rfl rfl ?_
 refine RS.nil (hK2 _ _ (T.conseq (fr' := [(1, _), (2, _), (3, _), (7, _)]) ?_ ⟨rfl, rfl, rfl, rfl, trivial⟩ (fun _ s => s)))
 refine T.seq fun K3 hK3 => ?_
 refine T.seq fun K4 hK4 => ?_
 refine T.region ?_
 refine RS.q (Qt.ldBA (us := [_, _, _]) 0 ty24 rfl rfl rfl rfl) rfl rfl ?_
 refine RS.p (Pu.move rfl) rfl rfl ?_
 refine RS.p (Pu.move rfl) rfl rfl ?_
 obtain ⟨x4, hx4, H⟩ := bindE H
 refine RS.solid (Sd.callN (vs := [.agg #[.int .i64 a0_g.w, .int .i64 a0_g.h, .slice p0 a0_g.tiles.length c0], .slice p1 a1_l.length c1, .int .i64 a2_class]) ent123 rfl (fun w s => clear_Tiles_walk a0_g a1_l a2_class w ((Rd.base h0) w s) ((Rd.base h1) w s) hx4)) rfl rfl fun q5 => ?_
 refine RS.p (Pu.lenSl sl45 rfl) rfl rfl ?_
 refine RS.p (Pu.move rfl) rfl rfl ?_
 refine RS.nil (hK4 _ _ (T.conseq (fr' := [(3, _), (7, _), (19, _), (20, _), (21, _)]) ?_ ⟨rfl, rfl, rfl, rfl, rfl, trivial⟩ (fun _ s => s)))
 refine T.joinE (σ := List Int) (γ := Unit) H (fun s => s) [(3, _), (7, _)] ⟨rfl, rfl, trivial⟩ (fun v7 _ => []) (fun v7 _ => Sat w [blk b1 [.int .i64 a0_g.w, .int .i64 a0_g.h, .slice p0 a0_g.tiles.length c0] 24, row nilH 3 (rowV (some b2, (a0_g.tiles.length : Int).toNat) ((a0_g.tiles.length : Int).toNat)) v7, row nilH 4 (rowV q5 x4.length) x4]) ?_ ?_
 ·rintro v7 ⟨⟩ H
  try dsimp only [Ex.then] at H
  refine Cont.conseq (fr' := [(3, _), (7, _)]) ?_ ⟨rfl, rfl, trivial⟩ (fun _ s => s)
  refine id (hK3 _ _ ?_)
  refine T.seq fun K5 hK5 => ?_
  refine T.seq fun K6 hK6 => ?_
  refine T.region ?_
  refine RS.p (Pu.move rfl) rfl rfl ?_
  refine RS.p (Pu.lenSl sl26 rfl) rfl rfl ?_
  refine RS.p (Pu.move rfl) rfl rfl ?_
  refine RS.nil (hK6 _ _ ?_)
  refine T.joinE (σ := List Int) (γ := Unit) H (fun s => s) [(3, _), (7, _)] ⟨rfl, rfl, trivial⟩ (fun v9 _ => []) (fun v9 _ => Sat w [blk b1 [.int .i64 a0_g.w, .int .i64 a0_g.h, .slice p0 a0_g.tiles.length c0] 24, row nilH 3 (rowV (some b2, (a0_g.tiles.length : Int).toNat) ((a0_g.tiles.length : Int).toNat)) v9, row nilH 4 (rowV q5 x4.length) x4]) ?_ ?_
  ·rintro v9 ⟨⟩ H
   try dsimp only [Ex.then] at H
   refine Cont.conseq (fr' := [(3, _), (7, _)]) ?_ ⟨rfl, rfl, trivial⟩ (fun _ s => s)
   refine id (hK5 _ _ ?_)
   refine T.seq fun K7 hK7 => ?_
   refine T.seq fun K8 hK8 => ?_
   refine T.region ?_
   refine RS.p (Pu.move rfl) rfl rfl ?_
   refine RS.p (Pu.lenSl sl26 rfl) rfl rfl ?_
   obtain ⟨g10, H⟩ := gdE H
   refine RS.p (Pu.subS rfl rfl g10) rfl rfl ?_
   refine RS.p (Pu.assign rfl) rfl rfl ?_
   refine RS.nil (hK8 _ _ (T.conseq (fr' := [(3, _), (7, _), (11, _)]) ?_ ⟨rfl, rfl, rfl, trivial⟩ (fun _ s => s)))
   refine T.joinE (σ := List Int) (γ := Unit) H (fun s => s) [(7, _)] ⟨rfl, trivial⟩ (fun v12 _ => []) (fun v12 _ => Sat w [blk b1 [.int .i64 a0_g.w, .int .i64 a0_g.h, .slice p0 a0_g.tiles.length c0] 24, row nilH 3 (rowV (some b2, (a0_g.tiles.length : Int).toNat) ((a0_g.tiles.length : Int).toNat)) v12, row nilH 4 (rowV q5 x4.length) x4]) ?_ ?_
   ·rintro v12 ⟨⟩ H
    try dsimp only [Ex.then] at H
    refine Cont.conseq (fr' := [(7, _)]) ?_ ⟨rfl, trivial⟩ (fun _ s => s)
    refine id (hK7 _ _ ?_)
    refine T.seq fun K9 hK9 => ?_
    refine T.region ?_
    refine RS.p (Pu.move rfl) rfl rfl ?_
    refine RS.p (Pu.assign rfl) rfl rfl ?_
    refine RS.nil (hK9 _ _ ?_)
    obtain rfl := Option.some.inj H
    refine T.retTo (by with_reducible ((repeat (first | apply RetTo.seq | apply RetTo.blk)); exact RetTo.refl _)) (Cont.ret1 rfl rfl fun w' s => ?_)
    exact ⟨(some b2, (a0_g.tiles.length : Int).toNat), (by simp only [(s.row_fits (q := (some b2, (a0_g.tiles.length : Int).toNat)) (m := (a0_g.tiles.length : Int).toNat) (k := 1) rfl).1]; try rfl), (Sat.relen (q := (some b2, (a0_g.tiles.length : Int).toNat)) (m := (a0_g.tiles.length : Int).toNat) 1 s rfl).pick [1] (by decide) rfl⟩
   ·intro z11 hz11 HX11 hJ11
    refine T.block ?_
    refine T.loopA (γ := Unit) hz11 [(3, _), (7, _)] (fun (v13, l14) _ => [(11, .int .i64 v13)]) (fun (v13, l14) _ => Sat w [blk b1 [.int .i64 a0_g.w, .int .i64 a0_g.h, .slice p0 a0_g.tiles.length c0] 24, row nilH 3 (rowV (some b2, (a0_g.tiles.length : Int).toNat) ((a0_g.tiles.length : Int).toNat)) l14, row nilH 4 (rowV q5 x4.length) x4]) () ⟨rfl, rfl, trivial⟩ ⟨rfl, trivial⟩ (fun w s => s) ?_
    rintro ⟨v13, l14⟩ ⟨⟩ y15 H hd11 KL11 hL11
    try dsimp only [Ex.then] at H
    refine T.conseq (fr' := [(11, _), (3, _), (7, _)]) ?_ ⟨rfl, rfl, rfl, trivial⟩ (fun _ s => s)
    refine T.seq fun K10 hK10 => ?_
    refine T.seq fun K11 hK11 => ?_
    refine T.region ?_
    refine RS.p (Pu.move rfl) rfl rfl ?_
    refine RS.p (Pu.bin rfl rfl rfl) rfl rfl ?_
    refine RS.nil (hK11 _ _ ?_)
    refine T.condP rfl (fun hc16 => ?_) (fun hc16 => ?_)
    ·have H := ifT hc16 H
     refine T.skip (hK10 _ _ ?_)
     refine T.seq fun K12 hK12 => ?_
     refine T.block ?_
     refine T.region ?_
     refine RS.q (Qt.ldBA (us := [_, _, _]) 0 ty24 rfl rfl rfl rfl) rfl rfl ?_
     refine RS.p (Pu.move rfl) rfl rfl ?_
     refine RS.p (Pu.move rfl) rfl rfl ?_
     refine RS.p (Pu.buildAr (cells := [_, _]) at131 rfl rfl) rfl rfl ?_
     refine RS.p (Pu.buildAr (cells := [_, _]) at131 rfl rfl) rfl rfl ?_
     refine RS.p (Pu.buildAr (cells := [_, _]) at131 rfl rfl) rfl rfl ?_
     refine RS.p (Pu.buildAr (cells := [_, _]) at131 rfl rfl) rfl rfl ?_
     refine RS.solid (Sd.litS (cs := [_, _, _, _, _, _, _, _]) sl138 zr131 rfl rfl rfl rfl rfl) rfl rfl fun b17 => ?_
     refine RS.weakS (fun w s => s.litRow (α := Pr2) (n := 4) 3 [(⟨1, 0⟩ : Pr2), (⟨1, 1⟩ : Pr2), (⟨0, 1⟩ : Pr2), (⟨(-1), 1⟩ : Pr2)] rfl (by decide) rfl ⟨[_, _], _, rfl, rfl, ⟨[_, _], _, rfl, rfl, ⟨[_, _], _, rfl, rfl, ⟨[_, _], _, rfl, rfl, rfl⟩⟩⟩⟩) ?_
     obtain ⟨x18, hx18, H⟩ := bindE H
     refine RS.know (fun w s => s.row_fits (q := (some b2, (a0_g.tiles.length : Int).toNat)) (m := (a0_g.tiles.length : Int).toNat) (k := 1) rfl) fun hf19 => ?_
     refine RS.solid (Sd.callF0 (vs := [.agg #[.int .i64 a0_g.w, .int .i64 a0_g.h, .slice p0 a0_g.tiles.length c0], rowV (some b2, (a0_g.tiles.length : Int).toNat) ((a0_g.tiles.length : Int).toNat), .int .i64 v13, rowV (some b17, 4) 4]) (C' := row nilH 3 (rowV (some b2, (a0_g.tiles.length : Int).toNat) ((a0_g.tiles.length : Int).toNat)) x18) (v := .tuple #[]) 1 ent124 rfl rfl (fun w s => clear_pass_walk a0_g l14 v13 [(⟨1, 0⟩ : Pr2), (⟨1, 1⟩ : Pr2), (⟨0, 1⟩ : Pr2), (⟨(-1), 1⟩ : Pr2)] hf19.1 (Rd.base h0) (Rd.rest 3 rfl (by decide) (Rd.ofRowN 0 rfl)) hx18 w s)) rfl rfl fun _ => ?_
     refine RS.nil (hK12 _ _ (T.conseq (fr' := [(3, _), (7, _), (11, _)]) ?_ ⟨rfl, rfl, rfl, trivial⟩ (fun _ s => s)))
     refine T.region ?_
     refine RS.p (Pu.move rfl) rfl rfl ?_
     obtain ⟨g20, H⟩ := gdE H
     refine RS.p (Pu.subS rfl rfl g20) rfl rfl ?_
     refine RS.p (Pu.assign rfl) rfl rfl ?_
     refine RS.nil (hL11 _ _ ((v13 - 1), x18) () H ⟨rfl, rfl, trivial⟩ ⟨rfl, trivial⟩ (fun w s => s.pick [0, 1, 2] (by decide) rfl))
    ·have H := ifF hc16 H
     obtain rfl := hd11 _ H
     refine T.exitTo (by with_reducible (repeat (first | exact ExTo.here | exact ExTo.hereN | exact ExTo.deep (by repeat (first | exact NmTo.seq | apply NmTo.blk)) | apply ExTo.seq | refine ExTo.past (by decide) ?_))) (hJ11 _ _ l14 () HX11 ⟨rfl, trivial⟩ trivial (fun w s => s))
  ·intro z8 hz8 HX8 hJ8
   refine T.block ?_
   refine T.loopA (γ := Unit) hz8 [(3, _), (7, _), (32, _)] (fun (v21, l22) _ => [(33, .int .i64 v21)]) (fun (v21, l22) _ => Sat w [blk b1 [.int .i64 a0_g.w, .int .i64 a0_g.h, .slice p0 a0_g.tiles.length c0] 24, row nilH 3 (rowV (some b2, (a0_g.tiles.length : Int).toNat) ((a0_g.tiles.length : Int).toNat)) l22, row nilH 4 (rowV q5 x4.length) x4]) () ⟨rfl, rfl, rfl, trivial⟩ ⟨rfl, trivial⟩ (fun w s => s) ?_
   rintro ⟨v21, l22⟩ ⟨⟩ y23 H hd8 KL8 hL8
   try dsimp only [Ex.then] at H
   refine T.conseq (fr' := [(33, _), (3, _), (7, _), (32, _)]) ?_ ⟨rfl, rfl, rfl, rfl, trivial⟩ (fun _ s => s)
   refine T.seq fun K13 hK13 => ?_
   refine T.region ?_
   refine RS.p (Pu.bin rfl rfl rfl) rfl rfl ?_
   refine RS.nil (hK13 _ _ ?_)
   refine T.seq fun K14 hK14 => ?_
   refine T.condP rfl (fun hc24 => ?_) (fun hc24 => ?_)
   ·have H := ifT hc24 H
    refine T.skip (hK14 _ _ ?_)
    refine T.seq fun K15 hK15 => ?_
    refine T.block ?_
    refine T.seq fun K16 hK16 => ?_
    refine T.region ?_
    refine RS.p (Pu.move rfl) rfl rfl ?_
    refine RS.p (Pu.assign rfl) rfl rfl ?_
    refine RS.nil (hK16 _ _ ?_)
    refine T.region ?_
    refine RS.q (Qt.ldBA (us := [_, _, _]) 0 ty24 rfl rfl rfl rfl) rfl rfl ?_
    refine RS.p (Pu.move rfl) rfl rfl ?_
    refine RS.p (Pu.move rfl) rfl rfl ?_
    refine RS.p (Pu.buildAr (cells := [_, _]) at131 rfl rfl) rfl rfl ?_
    refine RS.p (Pu.buildAr (cells := [_, _]) at131 rfl rfl) rfl rfl ?_
    refine RS.p (Pu.buildAr (cells := [_, _]) at131 rfl rfl) rfl rfl ?_
    refine RS.p (Pu.buildAr (cells := [_, _]) at131 rfl rfl) rfl rfl ?_
    refine RS.solid (Sd.litS (cs := [_, _, _, _, _, _, _, _]) sl138 zr131 rfl rfl rfl rfl rfl) rfl rfl fun b25 => ?_
    refine RS.weakS (fun w s => s.litRow (α := Pr2) (n := 4) 3 [(⟨(-1), 0⟩ : Pr2), (⟨(-1), (-1)⟩ : Pr2), (⟨0, (-1)⟩ : Pr2), (⟨1, (-1)⟩ : Pr2)] rfl (by decide) rfl ⟨[_, _], _, rfl, rfl, ⟨[_, _], _, rfl, rfl, ⟨[_, _], _, rfl, rfl, ⟨[_, _], _, rfl, rfl, rfl⟩⟩⟩⟩) ?_
    obtain ⟨x26, hx26, H⟩ := bindE H
    refine RS.know (fun w s => s.row_fits (q := (some b2, (a0_g.tiles.length : Int).toNat)) (m := (a0_g.tiles.length : Int).toNat) (k := 1) rfl) fun hf27 => ?_
    refine RS.solid (Sd.callF0 (vs := [.agg #[.int .i64 a0_g.w, .int .i64 a0_g.h, .slice p0 a0_g.tiles.length c0], rowV (some b2, (a0_g.tiles.length : Int).toNat) ((a0_g.tiles.length : Int).toNat), .int .i64 v21, rowV (some b25, 4) 4]) (C' := row nilH 3 (rowV (some b2, (a0_g.tiles.length : Int).toNat) ((a0_g.tiles.length : Int).toNat)) x26) (v := .tuple #[]) 1 ent124 rfl rfl (fun w s => clear_pass_walk a0_g l22 v21 [(⟨(-1), 0⟩ : Pr2), (⟨(-1), (-1)⟩ : Pr2), (⟨0, (-1)⟩ : Pr2), (⟨1, (-1)⟩ : Pr2)] hf27.1 (Rd.base h0) (Rd.rest 3 rfl (by decide) (Rd.ofRowN 0 rfl)) hx26 w s)) rfl rfl fun _ => ?_
    refine RS.nil (hK15 _ _ (T.conseq (fr' := [(3, _), (7, _), (32, _), (33, _)]) ?_ ⟨rfl, rfl, rfl, rfl, trivial⟩ (fun _ s => s)))
    refine T.region ?_
    obtain ⟨g28, H⟩ := gdE H
    refine RS.p (Pu.addS rfl rfl g28) rfl rfl ?_
    refine RS.p (Pu.move rfl) rfl rfl ?_
    refine RS.nil (hL8 _ _ ((v21 + 1), x26) () H ⟨rfl, rfl, rfl, trivial⟩ ⟨rfl, trivial⟩ (fun w s => s.pick [0, 1, 2] (by decide) rfl))
   ·have H := ifF hc24 H
    obtain rfl := hd8 _ H
    refine T.exitTo (by with_reducible (repeat (first | exact ExTo.here | exact ExTo.hereN | exact ExTo.deep (by repeat (first | exact NmTo.seq | apply NmTo.blk)) | apply ExTo.seq | refine ExTo.past (by decide) ?_))) (hJ8 _ _ l22 () HX8 ⟨rfl, rfl, trivial⟩ trivial (fun w s => s))
 ·intro z6 hz6 HX6 hJ6
  refine T.block ?_
  refine T.loopA (γ := Unit) hz6 [(3, _), (7, _), (19, _), (20, _)] (fun (v29, l30) _ => [(21, .int .i64 v29)]) (fun (v29, l30) _ => Sat w [blk b1 [.int .i64 a0_g.w, .int .i64 a0_g.h, .slice p0 a0_g.tiles.length c0] 24, row nilH 3 (rowV (some b2, (a0_g.tiles.length : Int).toNat) ((a0_g.tiles.length : Int).toNat)) l30, row nilH 4 (rowV q5 x4.length) x4]) () ⟨rfl, rfl, rfl, rfl, trivial⟩ ⟨rfl, trivial⟩ (fun w s => s) ?_
  rintro ⟨v29, l30⟩ ⟨⟩ y31 H hd6 KL6 hL6
  try dsimp only [Ex.then] at H
  refine T.conseq (fr' := [(21, _), (3, _), (7, _), (19, _), (20, _)]) ?_ ⟨rfl, rfl, rfl, rfl, rfl, trivial⟩ (fun _ s => s)
  refine T.seq fun K17 hK17 => ?_
  refine T.region ?_
  refine RS.p (Pu.bin rfl rfl rfl) rfl rfl ?_
  refine RS.nil (hK17 _ _ ?_)
  refine T.seq fun K18 hK18 => ?_
  refine T.condP rfl (fun hc32 => ?_) (fun hc32 => ?_)
  ·have H := ifT hc32 H
   refine T.skip (hK18 _ _ ?_)
   refine T.seq fun K19 hK19 => ?_
   refine T.block ?_
   refine T.seq fun K20 hK20 => ?_
   refine T.region ?_
   refine RS.p (Pu.move rfl) rfl rfl ?_
   obtain ⟨g33, H⟩ := gdE H
   refine RS.know (p := ∃ g cap, q5 = (some g, cap)) (fun w s => s.row_some (k := 2) rfl (pos_of g33)) ?_
   rintro ⟨gg34, cc35, rfl⟩
   refine RS.p (Pu.indexSl sl45 rfl rfl g33) rfl rfl ?_
   refine RS.q (Qt.ld0 (α := Bool) (Rd.ofRowN 2 rfl) ty4 rfl rfl g33 (by rintro _ _ rfl; rfl)) rfl rfl ?_
   refine RS.p (Pu.assign rfl) rfl rfl ?_
   refine RS.p (Pu.assign rfl) rfl rfl ?_
   refine RS.nil (hK20 _ _ (T.conseq (fr' := [(3, _), (7, _), (8, _), (9, _), (19, _), (20, _), (21, _)]) ?_ ⟨rfl, rfl, rfl, rfl, rfl, rfl, rfl, trivial⟩ (fun _ s => s)))
   refine T.seq fun K21 hK21 => ?_
   refine T.region ?_
   refine RS.p (Pu.move rfl) rfl rfl ?_
   refine RS.nil (hK21 _ _ ?_)
   refine T.cond rfl (fun hc36 => ?_) (fun hc36 => ?_)
   ·have H := ifT hc36 H
    refine T.region ?_
    refine RS.p (Pu.move rfl) rfl rfl ?_
    refine RS.p (Pu.move rfl) rfl rfl ?_
    obtain ⟨g37, H⟩ := gdE H
    refine RS.know (fun w s => s.row_fits (q := (some b2, (a0_g.tiles.length : Int).toNat)) (m := (a0_g.tiles.length : Int).toNat) (k := 1) rfl) fun hf38 => ?_
    refine RS.p (Pu.indexSl sl26 rfl rfl g37) rfl rfl ?_
    refine RS.solid (Sd.st0 (α := Int) 1 128 rfl ty3 rfl rfl rfl (idx_of hf38.1 g37) rfl rfl (by decide) rfl (by rintro _ _ rfl; rfl)) rfl rfl fun _ => ?_
    refine RS.nil (hK19 _ _ (T.conseq (fr' := [(3, _), (7, _), (19, _), (20, _), (21, _)]) ?_ ⟨rfl, rfl, rfl, rfl, rfl, trivial⟩ (fun _ s => s)))
    refine T.region ?_
    obtain ⟨g39, H⟩ := gdE H
    refine RS.p (Pu.addS rfl rfl g39) rfl rfl ?_
    refine RS.p (Pu.move rfl) rfl rfl ?_
    refine RS.nil (hL6 _ _ ((v29 + 1), (si l30 v29 128)) () H ⟨rfl, rfl, rfl, rfl, trivial⟩ ⟨rfl, trivial⟩ (fun w s => s))
   ·have H := ifB hc36 H
    refine T.skip (hK19 _ _ (T.conseq (fr' := [(3, _), (7, _), (19, _), (20, _), (21, _)]) ?_ ⟨rfl, rfl, rfl, rfl, rfl, trivial⟩ (fun _ s => s)))
    refine T.region ?_
    obtain ⟨g40, H⟩ := gdE H
    refine RS.p (Pu.addS rfl rfl g40) rfl rfl ?_
    refine RS.p (Pu.move rfl) rfl rfl ?_
    refine RS.nil (hL6 _ _ ((v29 + 1), l30) () H ⟨rfl, rfl, rfl, rfl, trivial⟩ ⟨rfl, trivial⟩ (fun w s => s))
  ·have H := ifF hc32 H
   obtain rfl := hd6 _ H
   refine T.exitTo (by with_reducible (repeat (first | exact ExTo.here | exact ExTo.hereN | exact ExTo.deep (by repeat (first | exact NmTo.seq | apply NmTo.blk)) | apply ExTo.seq | refine ExTo.past (by decide) ?_))) (hJ6 _ _ l30 () HX6 ⟨rfl, rfl, trivial⟩ trivial (fun w s => s))
theorem clear_May_walk (a0_g : Grd) (a1_l : List Bld) (a2_class : Int) (w : World) {v0 v1 : Value} (h0 : R (hpOf w) a0_g.tiles [v0]) (h1 : R (hpOf w) a1_l [v1]) {r : Bool} (H : clear_May a0_g a1_l a2_class = some r) : Calls Try.prog 107 #[.agg #[.int .i64 a0_g.w, .int .i64 a0_g.h, v0], v1, .int .i64 a2_class] w fun e w' => e = .returned (.bool r) ∧ Ext w w' := by
 have hm0 := R_max h0
 obtain ⟨p0, c0, rfl⟩ := R_form h0
 have hm1 := R_max h1
 obtain ⟨p1, c1, rfl⟩ := R_form h1
 unfold clear_May at H
 refine T.enter (args := [_, _, _]) (S := Sat w []) Try.func107 rfl rfl (Sat.start w) ?_
 refine T.seq fun K1 hK1 => ?_
 refine T.region ?_
 refine RS.solid (Sd.box (cs := [_, _, _]) rfl rfl) rfl rfl fun b1 => ?_
 refine RS.p (Pu.assign rfl) rfl rfl ?_
 refine RS.nil (hK1 _ _ ?_)
 refine T.seq fun K2 hK2 => ?_
 refine T.region ?_
 refine RS.q (Qt.ldBA (us := [_, _, _]) 0 ty24 rfl rfl rfl rfl) rfl rfl ?_
 obtain ⟨x2, hx2, H⟩ := bindE H
 refine RS.q (Qt.call (vs := [.agg #[.int .i64 a0_g.w, .int .i64 a0_g.h, .slice p0 a0_g.tiles.length c0]]) ent54 rfl fun w s => ground_May_walk a0_g w ((Rd.base h0) w s) hx2) rfl rfl ?_
 refine RS.p (Pu.move rfl) rfl rfl ?_
 refine RS.joinB H 4 13 (fun b5 => .bool b5) [(2, _), (6, _)] ⟨rfl, rfl, trivial⟩ ?_ ?_
 ·intro b5 H
  refine RS.p (Pu.move rfl) rfl rfl ?_
  refine RS.joinB H 3 17 (fun b8 => .bool b8) [(6, _)] ⟨rfl, trivial⟩ ?_ ?_
  ·intro b8 H
   refine RS.p (Pu.assign rfl) rfl rfl ?_
   refine RS.nil (hK2 _ _ ?_)
   obtain rfl := Option.some.inj H
   refine T.retTo (by with_reducible ((repeat (first | apply RetTo.seq | apply RetTo.blk)); exact RetTo.refl _)) (Cont.ret1 rfl rfl fun w' s => ?_)
   exact ⟨rfl, s.ext⟩
  ·intro z9 H hJ7
   refine RS.split 14 rfl (fun hc6 => ?_) (fun hc6 => ?_)
   ·have H := ifT hc6 H
    refine RS.p (Pu.move rfl) rfl rfl ?_
    obtain ⟨x10, hx10, H⟩ := bindE H
    refine RS.q (Qt.call (vs := [.int .i64 a2_class]) ent122 rfl fun w s => kind_Class_walk a2_class w  hx10) rfl rfl ?_
    refine RS.p (Pu.pickT rfl rfl) rfl rfl ?_
    obtain rfl := Option.some.inj H
    exact hJ7 _ _ ⟨rfl, rfl, trivial⟩ (fun w s => s)
   ·have H := ifB hc6 H
    refine RS.no rfl rfl ?_
    refine RS.no rfl rfl ?_
    refine RS.p (Pu.pickF rfl rfl) rfl rfl ?_
    obtain rfl := Option.some.inj H
    exact hJ7 _ _ ⟨rfl, rfl, trivial⟩ (fun w s => s)
 ·intro z11 H hJ4
  refine RS.split 9 rfl (fun hc3 => ?_) (fun hc3 => ?_)
  ·have H := ifT hc3 H
   refine RS.q (Qt.ldBA (us := [_, _, _]) 0 ty24 rfl rfl rfl rfl) rfl rfl ?_
   refine RS.p (Pu.move rfl) rfl rfl ?_
   obtain ⟨x12, hx12, H⟩ := bindE H
   refine RS.q (Qt.call (vs := [.agg #[.int .i64 a0_g.w, .int .i64 a0_g.h, .slice p0 a0_g.tiles.length c0], .slice p1 a1_l.length c1]) ent55 rfl fun w s => build_May_walk a0_g a1_l w ((Rd.base h0) w s) ((Rd.base h1) w s) hx12) rfl rfl ?_
   refine RS.p (Pu.pickT rfl rfl) rfl rfl ?_
   obtain rfl := Option.some.inj H
   exact hJ4 _ _ ⟨rfl, rfl, rfl, trivial⟩ (fun w s => s)
  ·have H := ifB hc3 H
   refine RS.no rfl rfl ?_
   refine RS.no rfl rfl ?_
   refine RS.no rfl rfl ?_
   refine RS.p (Pu.pickF rfl rfl) rfl rfl ?_
   obtain rfl := Option.some.inj H
   exact hJ4 _ _ ⟨rfl, rfl, rfl, trivial⟩ (fun w s => s)
theorem throngref5_Class_walk (a0_c : Int) (w : World) {r : Bool} (H : throngref5_Class a0_c = some r) : Calls Try.prog 74 #[.int .i64 a0_c] w fun e w' => e = .returned (.bool r) ∧ Ext w w' := by
 unfold throngref5_Class at H
 refine T.enter (args := [_]) (S := Sat w []) Try.func74 rfl rfl (Sat.start w) ?_
 refine T.seq fun K1 hK1 => ?_
 refine T.region ?_
 refine RS.p (Pu.assign rfl) rfl rfl ?_
 refine RS.nil (hK1 _ _ ?_)
 refine T.seq fun K2 hK2 => ?_
 refine T.region ?_
 refine RS.p (Pu.move rfl) rfl rfl ?_
 refine RS.p (Pu.bin rfl rfl rfl) rfl rfl ?_
 refine RS.p (Pu.move rfl) rfl rfl ?_
 refine RS.joinV 3 8 (.bool (decide ((0 ≤ a0_c) ∧ (a0_c ≤ 2)))) [(2, _)] ⟨rfl, trivial⟩ ?_ ?_
 ·refine RS.p (Pu.assign rfl) rfl rfl ?_
  refine RS.nil (hK2 _ _ ?_)
  obtain rfl := Option.some.inj H
  refine T.retTo (by with_reducible ((repeat (first | apply RetTo.seq | apply RetTo.blk)); exact RetTo.refl _)) (Cont.ret1 rfl rfl fun w' s => ?_)
  exact ⟨rfl, s.ext⟩
 ·intro hJ2
  refine RS.splitP 5 rfl (fun hc1 => ?_) (fun hc1 => ?_)
  ·refine RS.p (Pu.move rfl) rfl rfl ?_
   refine RS.p (Pu.bin rfl rfl rfl) rfl rfl ?_
   refine RS.p (Pu.pickT rfl rfl) rfl rfl ?_
   exact hJ2 _ _ ⟨dAndT hc1, rfl, trivial⟩ (fun w s => s)
  ·refine RS.no rfl rfl ?_
   refine RS.no rfl rfl ?_
   refine RS.p (Pu.pickF rfl rfl) rfl rfl ?_
   exact hJ2 _ _ ⟨dAndF hc1, rfl, trivial⟩ (fun w s => s)
theorem throngref5_Cost_walk (a0_class : Int) (a1_terrain : Int) (w : World) {r : Int} (H : throngref5_Cost a0_class a1_terrain = some r) : Calls Try.prog 83 #[.int .i64 a0_class, .int .u8 a1_terrain] w fun e w' => e = .returned (.int .i64 r) ∧ Ext w w' := by
 unfold throngref5_Cost at H
 refine T.enter (args := [_, _]) (S := Sat w []) Try.func83 rfl rfl (Sat.start w) ?_
 refine T.seq fun K1 hK1 => ?_
 refine T.region ?_
 refine RS.p (Pu.assign rfl) rfl rfl ?_
 refine RS.nil (hK1 _ _ ?_)
 refine T.seq fun K2 hK2 => ?_
 refine T.region ?_
 refine RS.p (Pu.buildAr (cells := [_, _, _, _, _, _]) at117 rfl rfl) rfl rfl ?_
 refine RS.p (Pu.buildAr (cells := [_, _, _, _, _, _]) at117 rfl rfl) rfl rfl ?_
 refine RS.p (Pu.buildAr (cells := [_, _, _, _, _, _]) at117 rfl rfl) rfl rfl ?_
 refine RS.p (Pu.buildAr (cells := [_, _, _, _, _, _, _, _, _, _, _, _, _, _, _, _, _, _]) at118 rfl rfl) rfl rfl ?_
 refine RS.solid (Sd.alloc (cs := nums (List.replicate 18 0)) zr118 rfl) rfl rfl fun b1 => ?_
 obtain ⟨g2, H⟩ := gdE H
 refine RS.solid (Sd.stB (cs' := nums [2, 1, 3, 5, 0, 0, 2, 1, 6, 0, 0, 0, 2, 1, 0, 3, 2, 0]) (us := nums [2, 1, 3, 5, 0, 0, 2, 1, 6, 0, 0, 0, 2, 1, 0, 3, 2, 0]) 0 ty118 rfl rfl rfl (by first | rfl | simp [Value.cells]) (by simp [nums, (g2).2]) (by simp [nums, (g2).1]) (by simp [nums, Value.oneCell']) (by rw [List.take_zero, List.nil_append, List.drop_of_length_le (by simp [nums, (g2).1]), List.append_nil])) rfl rfl fun _ => ?_
 refine RS.nil (hK2 _ _ (T.conseq (fr' := [(0, _), (1, _), (5, _)]) ?_ ⟨rfl, rfl, rfl, trivial⟩ (fun _ s => s)))
 refine T.seq fun K3 hK3 => ?_
 refine T.region ?_
 refine RS.p (Pu.move rfl) rfl rfl ?_
 refine RS.p (Pu.move rfl) rfl rfl ?_
 obtain ⟨g3, H⟩ := gdE H
 refine RS.p (Pu.indexAr ar118 rfl rfl (by have := g3; omega)) rfl rfl ?_
 obtain ⟨g4, H⟩ := gdE H
 refine RS.p (Pu.indexAr ar117 rfl rfl g4) rfl rfl ?_
 refine RS.q (Qt.ldArO (ji := (a0_class * 6 + a1_terrain)) (L := [2, 1, 3, 5, 0, 0, 2, 1, 6, 0, 0, 0, 2, 1, 0, 3, 2, 0]) 0 ty3 rfl (by have h1 := g3; have h2 := g4; omega) rfl (by have h1 := g3; have h2 := g4; omega)) rfl rfl ?_
 refine RS.p (Pu.assign rfl) rfl rfl ?_
 refine RS.nil (hK3 _ _ (T.conseq (fr' := [(4, _)]) ?_ ⟨rfl, trivial⟩ (fun _ s => s)))
 obtain rfl := Option.some.inj H
 refine T.retTo (by with_reducible ((repeat (first | apply RetTo.seq | apply RetTo.blk)); exact RetTo.refl _)) (Cont.ret1 rfl rfl fun w' s => ?_)
 exact ⟨rfl, s.ext⟩
theorem throngref5_Near_walk (a0_g : Grd) (a1_t : Int) (w : World) {v0 : Value} (h0 : R (hpOf w) a0_g.tiles [v0]) {r : List Int} (H : throngref5_Near a0_g a1_t = some r) : Calls Try.prog 51 #[.agg #[.int .i64 a0_g.w, .int .i64 a0_g.h, v0], .int .i64 a1_t] w fun e w' => ∃ q1 : (Option Nat × Nat), e = .returned (rowV q1 r.length) ∧ Sat w [row nilH 3 (rowV q1 r.length) r] w' := by
 have hm0 := R_max h0
 obtain ⟨p0, c0, rfl⟩ := R_form h0
 unfold throngref5_Near at H
 refine T.enter (args := [_, _]) (S := Sat w []) Try.func51 rfl rfl (Sat.start w) ?_
 refine T.seq fun K1 hK1 => ?_
 refine T.region ?_
 refine RS.solid (Sd.box (cs := [_, _, _]) rfl rfl) rfl rfl fun b1 => ?_
 refine RS.p (Pu.assign rfl) rfl rfl ?_
 refine RS.nil (hK1 _ _ ?_)
 refine T.seq fun K2 hK2 => ?_
 refine T.region ?_
 refine RS.p (Pu.buildAr (cells := [_, _, _, _, _, _, _, _]) at95 rfl rfl) rfl rfl ?_
 refine RS.solid (Sd.alloc (cs := nums (List.replicate 8 0)) zr95 rfl) rfl rfl fun b2 => ?_
 obtain ⟨g3, H⟩ := gdE H
 refine RS.solid (Sd.stB (cs' := nums [0, 1, 0, (-1), 1, 1, (-1), (-1)]) (us := nums [0, 1, 0, (-1), 1, 1, (-1), (-1)]) 1 ty95 rfl rfl rfl (by first | rfl | simp [Value.cells]) (by simp [nums, (g3).2]) (by simp [nums, (g3).1]) (by simp [nums, Value.oneCell']) (by rw [List.take_zero, List.nil_append, List.drop_of_length_le (by simp [nums, (g3).1]), List.append_nil])) rfl rfl fun _ => ?_
 refine RS.nil (hK2 _ _ (T.conseq (fr' := [(1, _), (2, _), (5, _)]) ?_ ⟨rfl, rfl, rfl, trivial⟩ (fun _ s => s)))
 refine T.seq fun K3 hK3 => ?_
 refine T.region ?_
 refine RS.p (Pu.buildAr (cells := [_, _, _, _, _, _, _, _]) at95 rfl rfl) rfl rfl ?_
 refine RS.solid (Sd.alloc (cs := nums (List.replicate 8 0)) zr95 rfl) rfl rfl fun b4 => ?_
 obtain ⟨g5, H⟩ := gdE H
 refine RS.solid (Sd.stB (cs' := nums [(-1), 0, 1, 0, (-1), 1, 1, (-1)]) (us := nums [(-1), 0, 1, 0, (-1), 1, 1, (-1)]) 2 ty95 rfl rfl rfl (by first | rfl | simp [Value.cells]) (by simp [nums, (g5).2]) (by simp [nums, (g5).1]) (by simp [nums, Value.oneCell']) (by rw [List.take_zero, List.nil_append, List.drop_of_length_le (by simp [nums, (g5).1]), List.append_nil])) rfl rfl fun _ => ?_
 refine RS.nil (hK3 _ _ ?_)
 refine T.seq fun K4 hK4 => ?_
 refine T.region ?_
 refine RS.p (Pu.assign rfl) rfl rfl ?_
 refine RS.nil (hK4 _ _ ?_)
 refine T.seq fun K5 hK5 => ?_
 refine T.seq fun K6 hK6 => ?_
 refine T.region ?_
 refine RS.p (Pu.assign rfl) rfl rfl ?_
 refine RS.nil (hK6 _ _ ?_)
 refine T.joinE (σ := List Int) (γ := (Option Nat × Nat)) H (fun s => s) [] trivial (fun v7 q8 => [(7, rowV q8 v7.length)]) (fun v7 q8 => Sat w [blk b1 [.int .i64 a0_g.w, .int .i64 a0_g.h, .slice p0 a0_g.tiles.length c0] 24, blk b2 (nums [0, 1, 0, (-1), 1, 1, (-1), (-1)]) 95, blk b4 (nums [(-1), 0, 1, 0, (-1), 1, 1, (-1)]) 95, row nilH 3 (rowV q8 v7.length) v7]) ?_ ?_
 ·rintro v7 q8 H
  try dsimp only [Ex.then] at H
  refine Cont.conseq (fr' := [(7, _)]) ?_ ⟨rfl, trivial⟩ (fun _ s => s)
  refine id (hK5 _ _ ?_)
  refine T.seq fun K7 hK7 => ?_
  refine T.region ?_
  refine RS.p (Pu.move rfl) rfl rfl ?_
  refine RS.p (Pu.assign rfl) rfl rfl ?_
  refine RS.nil (hK7 _ _ ?_)
  obtain rfl := Option.some.inj H
  refine T.retTo (by with_reducible ((repeat (first | apply RetTo.seq | apply RetTo.blk)); exact RetTo.refl _)) (Cont.ret1 rfl rfl fun w' s => ?_)
  exact ⟨q8, rfl, s.pick [3] (by decide) rfl⟩
 ·intro z6 hz6 HX6 hJ6
  refine T.block ?_
  refine T.loopA (γ := (Option Nat × Nat)) hz6 [(1, _), (2, _), (5, _), (6, _)] (fun (l9, v11) q10 => [(7, rowV q10 l9.length), (8, .int .i64 v11)]) (fun (l9, v11) q10 => Sat w [blk b1 [.int .i64 a0_g.w, .int .i64 a0_g.h, .slice p0 a0_g.tiles.length c0] 24, blk b2 (nums [0, 1, 0, (-1), 1, 1, (-1), (-1)]) 95, blk b4 (nums [(-1), 0, 1, 0, (-1), 1, 1, (-1)]) 95, row nilH 3 (rowV q10 l9.length) l9]) (none, 0) ⟨rfl, rfl, rfl, rfl, trivial⟩ ⟨rfl, rfl, trivial⟩ (fun w s => (s.nilRow (α := Int) 3).pick [0, 1, 2, 3] (by decide) rfl) ?_
  rintro ⟨l9, v11⟩ q10 y12 H hd6 KL6 hL6
  try dsimp only [Ex.then] at H
  refine T.conseq (fr' := [(7, _), (8, _), (1, _), (2, _), (5, _), (6, _)]) ?_ ⟨rfl, rfl, rfl, rfl, rfl, rfl, trivial⟩ (fun _ s => s)
  refine T.seq fun K8 hK8 => ?_
  refine T.seq fun K9 hK9 => ?_
  refine T.region ?_
  refine RS.p (Pu.move rfl) rfl rfl ?_
  refine RS.p (Pu.bin rfl rfl rfl) rfl rfl ?_
  refine RS.nil (hK9 _ _ ?_)
  refine T.condP rfl (fun hc13 => ?_) (fun hc13 => ?_)
  ·have H := ifT hc13 H
   refine T.skip (hK8 _ _ ?_)
   refine T.seq fun K10 hK10 => ?_
   refine T.block ?_
   refine T.seq fun K11 hK11 => ?_
   refine T.drawn (fun _ => True) [(0, .pu), (1, .pu), (2, .rd), (3, .pu), (4, .pu), (5, .pu), (6, .rd), (7, .pu), (8, .pu), (9, .pu), (10, .rd), (11, .pu), (12, .pu), (13, .pu), (14, .rd), (15, .pu), (16, .pu), (17, .pu)] mixed (ClE.sat _ _) (by kernel_rfl) ?_
   refine RD.p (fun _ _ => trivial) rfl (Pu.move rfl) rfl rfl ?_
   refine RD.p (fun _ _ => trivial) rfl (Pu.fieldAddr fd24_0 rfl) rfl rfl ?_
   refine RD.q (fun _ _ => trivial) rfl (Qt.ldB 0 ty3 rfl rfl rfl) rfl rfl ?_
   obtain ⟨g14, H⟩ := gdE H
   refine RD.p (fun _ _ => trivial) rfl (Pu.remN rfl rfl (and3 g14)) rfl rfl ?_
   refine RD.p (fun _ _ => trivial) rfl (Pu.move rfl) rfl rfl ?_
   obtain ⟨g15, H⟩ := gdE H
   refine RD.p (fun _ _ => trivial) rfl (Pu.indexAr ar95 rfl rfl (by have := g15; omega)) rfl rfl ?_
   refine RD.q (fun _ _ => trivial) rfl (Qt.ldAr 1 ty3 rfl rfl rfl (by have := g15; omega)) rfl rfl ?_
   obtain ⟨g16, H⟩ := gdE H
   refine RD.p (fun _ _ => trivial) rfl (Pu.addS rfl rfl g16) rfl rfl ?_
   refine RD.p (fun _ _ => trivial) rfl (Pu.move rfl) rfl rfl ?_
   refine RD.p (fun _ _ => trivial) rfl (Pu.fieldAddr fd24_0 rfl) rfl rfl ?_
   refine RD.q (fun _ _ => trivial) rfl (Qt.ldB 0 ty3 rfl rfl rfl) rfl rfl ?_
   obtain ⟨g17, H⟩ := gdE H
   refine RD.p (fun _ _ => trivial) rfl (Pu.quoN rfl rfl g17) rfl rfl ?_
   refine RD.p (fun _ _ => trivial) rfl (Pu.move rfl) rfl rfl ?_
   obtain ⟨g18, H⟩ := gdE H
   refine RD.p (fun _ _ => trivial) rfl (Pu.indexAr ar95 rfl rfl (by have := g18; omega)) rfl rfl ?_
   refine RD.q (fun _ _ => trivial) rfl (Qt.ldAr 2 ty3 rfl rfl rfl (by have := g18; omega)) rfl rfl ?_
   obtain ⟨g19, H⟩ := gdE H
   refine RD.p (fun _ _ => trivial) rfl (Pu.addS rfl rfl g19) rfl rfl ?_
   refine RD.p (fun _ _ => trivial) rfl (Pu.assign rfl) rfl rfl ?_
   refine RD.p (fun _ _ => trivial) rfl (Pu.assign rfl) rfl rfl ?_
   refine RD.nil (hK11 _ _ (T.conseq (fr' := [(1, _), (2, _), (5, _), (6, _), (7, _), (8, _), (9, _), (10, _)]) ?_ ⟨rfl, rfl, rfl, rfl, rfl, rfl, rfl, rfl, trivial⟩ (fun _ s => s)))
   refine T.seq fun K12 hK12 => ?_
   refine T.region ?_
   refine RS.p (Pu.move rfl) rfl rfl ?_
   refine RS.p (Pu.bin rfl rfl rfl) rfl rfl ?_
   refine RS.p (Pu.move rfl) rfl rfl ?_
   refine RS.joinV 5 40 (.bool (decide ((((a1_t % a0_g.w) + (gi [0, 1, 0, (-1), 1, 1, (-1), (-1)] v11)) < 0) ∨ (a0_g.w ≤ ((a1_t % a0_g.w) + (gi [0, 1, 0, (-1), 1, 1, (-1), (-1)] v11)))))) [(1, _), (2, _), (5, _), (6, _), (7, _), (8, _), (9, _), (10, _)] ⟨rfl, rfl, rfl, rfl, rfl, rfl, rfl, rfl, trivial⟩ ?_ ?_
   ·refine RS.p (Pu.move rfl) rfl rfl ?_
    refine RS.joinV 3 44 (.bool (decide (((((a1_t % a0_g.w) + (gi [0, 1, 0, (-1), 1, 1, (-1), (-1)] v11)) < 0) ∨ (a0_g.w ≤ ((a1_t % a0_g.w) + (gi [0, 1, 0, (-1), 1, 1, (-1), (-1)] v11)))) ∨ (((a1_t / a0_g.w) + (gi [(-1), 0, 1, 0, (-1), 1, 1, (-1)] v11)) < 0)))) [(1, _), (2, _), (5, _), (6, _), (7, _), (8, _), (9, _), (10, _)] ⟨rfl, rfl, rfl, rfl, rfl, rfl, rfl, rfl, trivial⟩ ?_ ?_
    ·refine RS.p (Pu.move rfl) rfl rfl ?_
     refine RS.joinV 5 50 (.bool (decide ((((((a1_t % a0_g.w) + (gi [0, 1, 0, (-1), 1, 1, (-1), (-1)] v11)) < 0) ∨ (a0_g.w ≤ ((a1_t % a0_g.w) + (gi [0, 1, 0, (-1), 1, 1, (-1), (-1)] v11)))) ∨ (((a1_t / a0_g.w) + (gi [(-1), 0, 1, 0, (-1), 1, 1, (-1)] v11)) < 0)) ∨ (a0_g.h ≤ ((a1_t / a0_g.w) + (gi [(-1), 0, 1, 0, (-1), 1, 1, (-1)] v11)))))) [(1, _), (2, _), (5, _), (6, _), (7, _), (8, _), (9, _), (10, _)] ⟨rfl, rfl, rfl, rfl, rfl, rfl, rfl, rfl, trivial⟩ ?_ ?_
     ·refine RS.nil (hK12 _ _ ?_)
      refine T.condP rfl (fun hc26 => ?_) (fun hc26 => ?_)
      ·have H := ifT hc26 H
       refine T.conseq (fr' := [(1, _), (2, _), (5, _), (6, _), (7, _), (8, _)]) ?_ ⟨rfl, rfl, rfl, rfl, rfl, rfl, trivial⟩ (fun _ s => s)
       refine T.region ?_
       refine RS.p (Pu.move rfl) rfl rfl ?_
       refine RS.solid (Sd.litS (cs := [_]) sl26 zr3 rfl rfl rfl rfl rfl) rfl rfl fun b27 => ?_
       obtain ⟨g29, H⟩ := gdE H
       refine RS.solid (Sd.app1c (α := Int) 3 4 (-1) rfl rfl (nilH_lt _) sl26 zr3 rfl rfl rfl rfl g29 (by decide)) rfl rfl fun q28 => ?_
       refine RS.p (Pu.assign rfl) rfl rfl ?_
       refine RS.nil (hK10 _ _ (T.conseq (fr' := [(1, _), (2, _), (5, _), (6, _), (7, _), (8, _)]) ?_ ⟨rfl, rfl, rfl, rfl, rfl, rfl, trivial⟩ (fun _ s => s)))
       refine T.region ?_
       refine RS.p (Pu.move rfl) rfl rfl ?_
       obtain ⟨g30, H⟩ := gdE H
       refine RS.p (Pu.addS rfl rfl g30) rfl rfl ?_
       refine RS.p (Pu.assign rfl) rfl rfl ?_
       refine RS.nil (hL6 _ _ ((l9 ++ [(-1)]), (v11 + 1)) q28 H ⟨rfl, rfl, rfl, rfl, trivial⟩ ⟨rfl, rfl, trivial⟩ (fun w s => s.pick [0, 1, 2, 3] (by decide) rfl))
      ·have H := ifF hc26 H
       refine T.region ?_
       refine RS.p (Pu.move rfl) rfl rfl ?_
       refine RS.p (Pu.move rfl) rfl rfl ?_
       refine RS.p (Pu.fieldAddr fd24_0 rfl) rfl rfl ?_
       refine RS.q (Qt.ldB 0 ty3 rfl rfl rfl) rfl rfl ?_
       refine RS.p (Pu.move rfl) rfl rfl ?_
       obtain ⟨g31, H⟩ := gdE H
       refine RS.p (Pu.mulS rfl rfl g31) rfl rfl ?_
       obtain ⟨g32, H⟩ := gdE H
       refine RS.p (Pu.addS rfl rfl g32) rfl rfl ?_
       refine RS.solid (Sd.litS (cs := [_]) sl26 zr3 rfl rfl rfl rfl rfl) rfl rfl fun b33 => ?_
       obtain ⟨g35, H⟩ := gdE H
       refine RS.solid (Sd.app1c (α := Int) 3 4 (((a1_t % a0_g.w) + (gi [0, 1, 0, (-1), 1, 1, (-1), (-1)] v11)) + (a0_g.w * ((a1_t / a0_g.w) + (gi [(-1), 0, 1, 0, (-1), 1, 1, (-1)] v11)))) rfl rfl (nilH_lt _) sl26 zr3 rfl rfl rfl rfl g35 (by decide)) rfl rfl fun q34 => ?_
       refine RS.p (Pu.assign rfl) rfl rfl ?_
       refine RS.nil (hK10 _ _ (T.conseq (fr' := [(1, _), (2, _), (5, _), (6, _), (7, _), (8, _)]) ?_ ⟨rfl, rfl, rfl, rfl, rfl, rfl, trivial⟩ (fun _ s => s)))
       refine T.region ?_
       refine RS.p (Pu.move rfl) rfl rfl ?_
       obtain ⟨g36, H⟩ := gdE H
       refine RS.p (Pu.addS rfl rfl g36) rfl rfl ?_
       refine RS.p (Pu.assign rfl) rfl rfl ?_
       refine RS.nil (hL6 _ _ ((l9 ++ [(((a1_t % a0_g.w) + (gi [0, 1, 0, (-1), 1, 1, (-1), (-1)] v11)) + (a0_g.w * ((a1_t / a0_g.w) + (gi [(-1), 0, 1, 0, (-1), 1, 1, (-1)] v11))))]), (v11 + 1)) q34 H ⟨rfl, rfl, rfl, rfl, trivial⟩ ⟨rfl, rfl, trivial⟩ (fun w s => s.pick [0, 1, 2, 3] (by decide) rfl))
     ·intro hJ25
      refine RS.splitP 45 rfl (fun hc24 => ?_) (fun hc24 => ?_)
      ·refine RS.no rfl rfl ?_
       refine RS.no rfl rfl ?_
       refine RS.no rfl rfl ?_
       refine RS.no rfl rfl ?_
       refine RS.p (Pu.pickT rfl rfl) rfl rfl ?_
       exact hJ25 _ _ ⟨dOrT hc24, rfl, rfl, rfl, rfl, rfl, rfl, rfl, rfl, trivial⟩ (fun w s => s)
      ·refine RS.p (Pu.move rfl) rfl rfl ?_
       refine RS.p (Pu.fieldAddr fd24_1 rfl) rfl rfl ?_
       refine RS.q (Qt.ldB 0 ty3 rfl rfl rfl) rfl rfl ?_
       refine RS.p (Pu.bin rfl rfl rfl) rfl rfl ?_
       refine RS.p (Pu.pickF rfl rfl) rfl rfl ?_
       exact hJ25 _ _ ⟨dOrF hc24, rfl, rfl, rfl, rfl, rfl, rfl, rfl, rfl, trivial⟩ (fun w s => s)
    ·intro hJ23
     refine RS.splitP 41 rfl (fun hc22 => ?_) (fun hc22 => ?_)
     ·refine RS.no rfl rfl ?_
      refine RS.no rfl rfl ?_
      refine RS.p (Pu.pickT rfl rfl) rfl rfl ?_
      exact hJ23 _ _ ⟨dOrT hc22, rfl, rfl, rfl, rfl, rfl, rfl, rfl, rfl, trivial⟩ (fun w s => s)
     ·refine RS.p (Pu.move rfl) rfl rfl ?_
      refine RS.p (Pu.bin rfl rfl rfl) rfl rfl ?_
      refine RS.p (Pu.pickF rfl rfl) rfl rfl ?_
      exact hJ23 _ _ ⟨dOrF hc22, rfl, rfl, rfl, rfl, rfl, rfl, rfl, rfl, trivial⟩ (fun w s => s)
   ·intro hJ21
    refine RS.splitP 35 rfl (fun hc20 => ?_) (fun hc20 => ?_)
    ·refine RS.no rfl rfl ?_
     refine RS.no rfl rfl ?_
     refine RS.no rfl rfl ?_
     refine RS.no rfl rfl ?_
     refine RS.p (Pu.pickT rfl rfl) rfl rfl ?_
     exact hJ21 _ _ ⟨dOrT hc20, rfl, rfl, rfl, rfl, rfl, rfl, rfl, rfl, trivial⟩ (fun w s => s)
    ·refine RS.p (Pu.move rfl) rfl rfl ?_
     refine RS.p (Pu.fieldAddr fd24_0 rfl) rfl rfl ?_
     refine RS.q (Qt.ldB 0 ty3 rfl rfl rfl) rfl rfl ?_
     refine RS.p (Pu.bin rfl rfl rfl) rfl rfl ?_
     refine RS.p (Pu.pickF rfl rfl) rfl rfl ?_
     exact hJ21 _ _ ⟨dOrF hc20, rfl, rfl, rfl, rfl, rfl, rfl, rfl, rfl, trivial⟩ (fun w s => s)
  ·have H := ifF hc13 H
   obtain rfl := hd6 _ H
   refine T.exitTo (by with_reducible (repeat (first | exact ExTo.here | exact ExTo.hereN | exact ExTo.deep (by repeat (first | exact NmTo.seq | apply NmTo.blk)) | apply ExTo.seq | refine ExTo.past (by decide) ?_))) (hJ6 _ _ l9 q10 HX6 trivial ⟨rfl, trivial⟩ (fun w s => s))
theorem throngref8_Open_walk (a0_g : Grd) (a1_l : List Bld) (a2_class : Int) (w : World) {v0 v1 : Value} (h0 : R (hpOf w) a0_g.tiles [v0]) (h1 : R (hpOf w) a1_l [v1]) {r : List Bool} (H : throngref8_Open a0_g a1_l a2_class = some r) : Calls Try.prog 106 #[.agg #[.int .i64 a0_g.w, .int .i64 a0_g.h, v0], v1, .int .i64 a2_class] w fun e w' => ∃ q1 : (Option Nat × Nat), e = .returned (rowV q1 r.length) ∧ Sat w [row nilH 4 (rowV q1 r.length) r] w' := by
 have hm0 := R_max h0
 obtain ⟨p0, c0, rfl⟩ := R_form h0
 have hm1 := R_max h1
 obtain ⟨p1, c1, rfl⟩ := R_form h1
 unfold throngref8_Open at H
 refine T.enter (args := [_, _, _]) (S := Sat w []) Try.func106 rfl rfl (Sat.start w) ?_
 refine T.seq fun K1 hK1 => ?_
 refine T.region ?_
 refine RS.solid (Sd.box (cs := [_, _, _]) rfl rfl) rfl rfl fun b1 => ?_
 refine RS.p (Pu.assign rfl) rfl rfl ?_
 refine RS.nil (hK1 _ _ ?_)
 refine T.seq fun K2 hK2 => ?_
 refine T.region ?_
 refine RS.q (Qt.ldBA (us := [_, _, _]) 0 ty24 rfl rfl rfl rfl) rfl rfl ?_
 refine RS.p (Pu.move rfl) rfl rfl ?_
 obtain ⟨x2, hx2, H⟩ := bindE H
 refine RS.solid (Sd.callN (vs := [.agg #[.int .i64 a0_g.w, .int .i64 a0_g.h, .slice p0 a0_g.tiles.length c0], .slice p1 a1_l.length c1]) ent27 rfl (fun w s => throngref8_Covered_walk a0_g a1_l w ((Rd.base h0) w s) ((Rd.base h1) w s) hx2)) rfl rfl fun q3 => ?_
 refine RS.p (Pu.assign rfl) rfl rfl ?_
 refine RS.nil (hK2 _ _ (T.conseq (fr' := [(2, _), (3, _), (7, _)]) ?_ ⟨rfl, rfl, rfl, trivial⟩ (fun _ s => s)))
 refine T.seq fun K3 hK3 => ?_
 refine T.seq fun K4 hK4 => ?_
 refine T.region ?_
 refine RS.p (Pu.assign rfl) rfl rfl ?_
 refine RS.nil (hK4 _ _ ?_)
 refine T.joinE (σ := List Bool) (γ := Unit) H (fun s => s) [(7, _)] ⟨rfl, trivial⟩ (fun v5 _ => []) (fun v5 _ => Sat w [blk b1 [.int .i64 a0_g.w, .int .i64 a0_g.h, .slice p0 a0_g.tiles.length c0] 24, row nilH 4 (rowV q3 x2.length) v5]) ?_ ?_
 ·rintro v5 ⟨⟩ H
  try dsimp only [Ex.then] at H
  refine Cont.conseq (fr' := [(7, _)]) ?_ ⟨rfl, trivial⟩ (fun _ s => s)
  refine id (hK3 _ _ ?_)
  refine T.seq fun K5 hK5 => ?_
  refine T.region ?_
  refine RS.p (Pu.move rfl) rfl rfl ?_
  refine RS.p (Pu.assign rfl) rfl rfl ?_
  refine RS.nil (hK5 _ _ ?_)
  obtain rfl := Option.some.inj H
  refine T.retTo (by with_reducible ((repeat (first | apply RetTo.seq | apply RetTo.blk)); exact RetTo.refl _)) (Cont.ret1 rfl rfl fun w' s => ?_)
  exact ⟨q3, (by simp only [(s.row_fits (q := q3) (m := x2.length) (k := 1) rfl).1]; try rfl), (Sat.relen (q := q3) (m := x2.length) 1 s rfl).pick [1] (by decide) rfl⟩
 ·intro z4 hz4 HX4 hJ4
  refine T.block ?_
  refine T.loopA (γ := Unit) hz4 [(2, _), (3, _), (7, _)] (fun (v6, l7) _ => [(8, .int .i64 v6)]) (fun (v6, l7) _ => Sat w [blk b1 [.int .i64 a0_g.w, .int .i64 a0_g.h, .slice p0 a0_g.tiles.length c0] 24, row nilH 4 (rowV q3 x2.length) l7]) () ⟨rfl, rfl, rfl, trivial⟩ ⟨rfl, trivial⟩ (fun w s => s) ?_
  rintro ⟨v6, l7⟩ ⟨⟩ y8 H hd4 KL4 hL4
  try dsimp only [Ex.then] at H
  refine T.conseq (fr' := [(8, _), (2, _), (3, _), (7, _)]) ?_ ⟨rfl, rfl, rfl, rfl, trivial⟩ (fun _ s => s)
  refine T.seq fun K6 hK6 => ?_
  refine T.seq fun K7 hK7 => ?_
  refine T.region ?_
  refine RS.p (Pu.move rfl) rfl rfl ?_
  refine RS.p (Pu.move rfl) rfl rfl ?_
  refine RS.p (Pu.lenSl sl45 rfl) rfl rfl ?_
  refine RS.p (Pu.bin rfl rfl rfl) rfl rfl ?_
  refine RS.nil (hK7 _ _ ?_)
  refine T.condP rfl (fun hc9 => ?_) (fun hc9 => ?_)
  ·have H := ifT hc9 H
   refine T.skip (hK6 _ _ (T.conseq (fr' := [(2, _), (3, _), (7, _), (8, _)]) ?_ ⟨rfl, rfl, rfl, rfl, trivial⟩ (fun _ s => s)))
   refine T.seq fun K8 hK8 => ?_
   refine T.block ?_
   refine T.region ?_
   refine RS.p (Pu.move rfl) rfl rfl ?_
   refine RS.p (Pu.move rfl) rfl rfl ?_
   refine RS.p (Pu.move rfl) rfl rfl ?_
   refine RS.p (Pu.move rfl) rfl rfl ?_
   obtain ⟨g10, H⟩ := gdE H
   refine RS.know (fun w s => s.row_fits (q := q3) (m := x2.length) (k := 1) rfl) fun hf11 => ?_
   refine RS.know (p := ∃ g cap, q3 = (some g, cap)) (fun w s => s.row_some (k := 1) rfl (pos_of (idx_of hf11.1 g10))) ?_
   rintro ⟨gg12, cc13, rfl⟩
   refine RS.p (Pu.indexSl sl45 rfl rfl g10) rfl rfl ?_
   refine RS.q (Qt.ld0 (α := Bool) (Rd.ofRowN 1 rfl) ty4 rfl rfl (idx_of hf11.1 g10) (by rintro _ _ rfl; rfl)) rfl rfl ?_
   refine RS.p (Pu.not rfl) rfl rfl ?_
   refine RS.p (Pu.move rfl) rfl rfl ?_
   refine RS.joinB H 9 34 (fun b16 => .bool b16) [(2, _), (3, _), (7, _), (8, _), (18, _), (19, _)] ⟨rfl, rfl, rfl, rfl, rfl, rfl, trivial⟩ ?_ ?_
   ·intro b16 H
    obtain ⟨g17, H⟩ := gdE H
    refine RS.know (fun w s => s.row_fits (q := (some gg12, cc13)) (m := x2.length) (k := 1) rfl) fun hf18 => ?_
    refine RS.p (Pu.indexSl sl45 rfl rfl g17) rfl rfl ?_
    refine RS.solid (Sd.st0 (α := Bool) 1 b16 rfl ty4 rfl rfl rfl (idx_of hf18.1 g17) rfl rfl (by decide) rfl (by rintro _ _ rfl; rfl)) rfl rfl fun _ => ?_
    refine RS.nil (hK8 _ _ (T.conseq (fr' := [(2, _), (3, _), (7, _), (8, _)]) ?_ ⟨rfl, rfl, rfl, rfl, trivial⟩ (fun _ s => s)))
    refine T.region ?_
    refine RS.p (Pu.move rfl) rfl rfl ?_
    obtain ⟨g19, H⟩ := gdE H
    refine RS.p (Pu.addS rfl rfl g19) rfl rfl ?_
    refine RS.p (Pu.assign rfl) rfl rfl ?_
    refine RS.nil (hL4 _ _ ((v6 + 1), (si l7 v6 b16)) () H ⟨rfl, rfl, rfl, trivial⟩ ⟨rfl, trivial⟩ (fun w s => s))
   ·intro z20 H hJ15
    refine RS.split 25 rfl (fun hc14 => ?_) (fun hc14 => ?_)
    ·have H := ifT hc14 H
     refine RS.p (Pu.move rfl) rfl rfl ?_
     refine RS.p (Pu.fieldAddr fd24_2 rfl) rfl rfl ?_
     refine RS.q (Qt.ldB 0 ty22 rfl rfl rfl) rfl rfl ?_
     refine RS.p (Pu.move rfl) rfl rfl ?_
     obtain ⟨g21, H⟩ := gdE H
     obtain ⟨bl22, ol23, rfl⟩ := R_ptr h0 (ne_of_pos (pos_of g21))
     refine RS.p (Pu.indexSl sl22 rfl rfl g21) rfl rfl ?_
     refine RS.q (Qt.ld0 (α := UInt8) (Rd.base h0) ty5 rfl rfl g21 (by rintro _ _ rfl; rfl)) rfl rfl ?_
     obtain ⟨x24, hx24, H⟩ := bindE H
     refine RS.q (Qt.call (vs := [.int .i64 a2_class, .int .u8 ((gi a0_g.tiles v6).toNat : Int)]) ent83 rfl fun w s => throngref5_Cost_walk a2_class ((gi a0_g.tiles v6).toNat : Int) w  hx24) rfl rfl ?_
     refine RS.p (Pu.bin rfl rfl rfl) rfl rfl ?_
     refine RS.p (Pu.pickT rfl rfl) rfl rfl ?_
     obtain rfl := Option.some.inj H
     exact hJ15 _ _ ⟨rfl, rfl, rfl, rfl, rfl, rfl, rfl, trivial⟩ (fun w s => s)
    ·have H := ifB hc14 H
     refine RS.no rfl rfl ?_
     refine RS.no rfl rfl ?_
     refine RS.no rfl rfl ?_
     refine RS.no rfl rfl ?_
     refine RS.no rfl rfl ?_
     refine RS.no rfl rfl ?_
     refine RS.no rfl rfl ?_
     refine RS.no rfl rfl ?_
     refine RS.p (Pu.pickF rfl rfl) rfl rfl ?_
     obtain rfl := Option.some.inj H
     exact hJ15 _ _ ⟨rfl, rfl, rfl, rfl, rfl, rfl, rfl, trivial⟩ (fun w s => s)
  ·have H := ifF hc9 H
   obtain rfl := hd4 _ H
   refine T.exitTo (by with_reducible (repeat (first | exact ExTo.here | exact ExTo.hereN | exact ExTo.deep (by repeat (first | exact NmTo.seq | apply NmTo.blk)) | apply ExTo.seq | refine ExTo.past (by decide) ?_))) (hJ4 _ _ l7 () HX4 ⟨rfl, trivial⟩ trivial (fun w s => s))
theorem throngref8_Grid_walk (a0_g : Grd) (a1_l : List Bld) (a2_class : Int) (w : World) {v0 v1 : Value} (h0 : R (hpOf w) a0_g.tiles [v0]) (h1 : R (hpOf w) a1_l [v1]) {r : List Int} (H : throngref8_Grid a0_g a1_l a2_class = some r) : Calls Try.prog 76 #[.agg #[.int .i64 a0_g.w, .int .i64 a0_g.h, v0], v1, .int .i64 a2_class] w fun e w' => ∃ q1 : (Option Nat × Nat), e = .returned (rowV q1 r.length) ∧ Sat w [row nilH 3 (rowV q1 r.length) r] w' := by
 have hm0 := R_max h0
 obtain ⟨p0, c0, rfl⟩ := R_form h0
 have hm1 := R_max h1
 obtain ⟨p1, c1, rfl⟩ := R_form h1
 unfold throngref8_Grid at H
 refine T.enter (args := [_, _, _]) (S := Sat w []) Try.func76 rfl rfl (Sat.start w) ?_
 refine T.seq fun K1 hK1 => ?_
 refine T.region ?_
 refine RS.solid (Sd.box (cs := [_, _, _]) rfl rfl) rfl rfl fun b1 => ?_
 refine RS.p (Pu.assign rfl) rfl rfl ?_
 refine RS.nil (hK1 _ _ ?_)
 refine T.seq fun K2 hK2 => ?_
 refine T.region ?_
 refine RS.q (Qt.ldBA (us := [_, _, _]) 0 ty24 rfl rfl rfl rfl) rfl rfl ?_
 refine RS.p (Pu.move rfl) rfl rfl ?_
 refine RS.p (Pu.move rfl) rfl rfl ?_
 obtain ⟨x2, hx2, H⟩ := bindE H
 refine RS.solid (Sd.callN (vs := [.agg #[.int .i64 a0_g.w, .int .i64 a0_g.h, .slice p0 a0_g.tiles.length c0], .slice p1 a1_l.length c1, .int .i64 a2_class]) ent106 rfl (fun w s => throngref8_Open_walk a0_g a1_l a2_class w ((Rd.base h0) w s) ((Rd.base h1) w s) hx2)) rfl rfl fun q3 => ?_
 refine RS.p (Pu.assign rfl) rfl rfl ?_
 refine RS.nil (hK2 _ _ (T.conseq (fr' := [(3, _), (7, _)]) ?_ ⟨rfl, rfl, trivial⟩ (fun _ s => s)))
 refine T.seq fun K3 hK3 => ?_
 refine T.region ?_
 refine RS.p (Pu.move rfl) rfl rfl ?_
 refine RS.p (Pu.lenSl sl45 rfl) rfl rfl ?_
 obtain ⟨g5, H⟩ := gdE H
 refine RS.solid (Sd.make (α := Int) (B := nilH) 0 sl26 zr3 rfl (by decide) rfl rfl (by omega) (by omega) (by omega)) rfl rfl fun b4 => ?_
 refine RS.p (Pu.assign rfl) rfl rfl ?_
 refine RS.nil (hK3 _ _ (T.conseq (fr' := [(3, _), (7, _), (8, _)]) ?_ ⟨rfl, rfl, rfl, trivial⟩ (fun _ s => s)))
 refine T.seq fun K4 hK4 => ?_
 refine T.seq fun K5 hK5 => ?_
 refine T.region ?_
 refine RS.p (Pu.assign rfl) rfl rfl ?_
 refine RS.nil (hK5 _ _ ?_)
 refine T.joinE (σ := List Int) (γ := Unit) H (fun s => s) [(8, _)] ⟨rfl, trivial⟩ (fun v7 _ => []) (fun v7 _ => Sat w [blk b1 [.int .i64 a0_g.w, .int .i64 a0_g.h, .slice p0 a0_g.tiles.length c0] 24, dead, row nilH 3 (rowV (some b4, (x2.length : Int).toNat) ((x2.length : Int).toNat)) v7]) ?_ ?_
 ·rintro v7 ⟨⟩ H
  try dsimp only [Ex.then] at H
  refine Cont.conseq (fr' := [(8, _)]) ?_ ⟨rfl, trivial⟩ (fun _ s => s)
  refine id (hK4 _ _ ?_)
  refine T.seq fun K6 hK6 => ?_
  refine T.region ?_
  refine RS.p (Pu.move rfl) rfl rfl ?_
  refine RS.p (Pu.assign rfl) rfl rfl ?_
  refine RS.nil (hK6 _ _ ?_)
  obtain rfl := Option.some.inj H
  refine T.retTo (by with_reducible ((repeat (first | apply RetTo.seq | apply RetTo.blk)); exact RetTo.refl _)) (Cont.ret1 rfl rfl fun w' s => ?_)
  exact ⟨(some b4, (x2.length : Int).toNat), (by simp only [(s.row_fits (q := (some b4, (x2.length : Int).toNat)) (m := (x2.length : Int).toNat) (k := 2) rfl).1]; try rfl), (Sat.relen (q := (some b4, (x2.length : Int).toNat)) (m := (x2.length : Int).toNat) 2 s rfl).pick [2] (by decide) rfl⟩
 ·intro z6 hz6 HX6 hJ6
  refine T.block ?_
  refine T.loopA (γ := (Option Nat × Nat)) hz6 [(3, _), (8, _)] (fun (v8, l9, l11) q10 => [(7, rowV q10 l9.length), (9, .bool v8)]) (fun (v8, l9, l11) q10 => Sat w [blk b1 [.int .i64 a0_g.w, .int .i64 a0_g.h, .slice p0 a0_g.tiles.length c0] 24, row nilH 4 (rowV q10 l9.length) l9, row nilH 3 (rowV (some b4, (x2.length : Int).toNat) ((x2.length : Int).toNat)) l11]) q3 ⟨rfl, rfl, trivial⟩ ⟨rfl, rfl, trivial⟩ (fun w s => s) ?_
  rintro ⟨v8, l9, l11⟩ q10 y12 H hd6 KL6 hL6
  try dsimp only [Ex.then] at H
  refine T.conseq (fr' := [(7, _), (9, _), (3, _), (8, _)]) ?_ ⟨rfl, rfl, rfl, rfl, trivial⟩ (fun _ s => s)
  refine T.seq fun K7 hK7 => ?_
  refine T.seq fun K8 hK8 => ?_
  refine T.region ?_
  refine RS.p (Pu.move rfl) rfl rfl ?_
  refine RS.nil (hK8 _ _ ?_)
  refine T.cond rfl (fun hc13 => ?_) (fun hc13 => ?_)
  ·have H := ifT hc13 H
   refine T.skip (hK7 _ _ ?_)
   refine T.block ?_
   refine T.seq fun K9 hK9 => ?_
   refine T.region ?_
   refine RS.p (Pu.assign rfl) rfl rfl ?_
   refine RS.nil (hK9 _ _ ?_)
   refine T.seq fun K10 hK10 => ?_
   refine T.region ?_
   refine RS.p (Pu.move rfl) rfl rfl ?_
   refine RS.p (Pu.lenSl sl45 rfl) rfl rfl ?_
   obtain ⟨g15, H⟩ := gdE H
   refine RS.solid (Sd.make (α := Bool) (B := nilH) false sl45 zr4 rfl (by decide) rfl rfl (by omega) (by omega) (by omega)) rfl rfl fun b14 => ?_
   refine RS.p (Pu.assign rfl) rfl rfl ?_
   refine RS.nil (hK10 _ _ (T.conseq (fr' := [(3, _), (7, _), (8, _), (9, _), (10, _)]) ?_ ⟨rfl, rfl, rfl, rfl, rfl, trivial⟩ (fun _ s => s)))
   refine T.seq fun K11 hK11 => ?_
   refine T.seq fun K12 hK12 => ?_
   refine T.region ?_
   refine RS.p (Pu.assign rfl) rfl rfl ?_
   refine RS.nil (hK12 _ _ ?_)
   refine T.joinE (σ := Bool × List Int × List Bool) (γ := Unit) H (fun s => s) [(3, _), (8, _), (10, _)] ⟨rfl, rfl, rfl, trivial⟩ (fun (v17, v18, v19) _ => [(9, .bool v17)]) (fun (v17, v18, v19) _ => Sat w [blk b1 [.int .i64 a0_g.w, .int .i64 a0_g.h, .slice p0 a0_g.tiles.length c0] 24, row nilH 4 (rowV q10 l9.length) l9, row nilH 3 (rowV (some b4, (x2.length : Int).toNat) ((x2.length : Int).toNat)) v18, row nilH 4 (rowV (some b14, (l9.length : Int).toNat) ((l9.length : Int).toNat)) v19]) ?_ ?_
   ·rintro ⟨v17, v18, v19⟩ ⟨⟩ H
    try dsimp only [Ex.then] at H
    refine Cont.conseq (fr' := [(9, _), (3, _), (8, _), (10, _)]) ?_ ⟨rfl, rfl, rfl, rfl, trivial⟩ (fun _ s => s)
    refine id (hK11 _ _ ?_)
    refine T.region ?_
    refine RS.p (Pu.move rfl) rfl rfl ?_
    refine RS.p (Pu.assign rfl) rfl rfl ?_
    refine RS.nil (Cont.know (fun w s => s.row_fits (q := (some b14, (l9.length : Int).toNat)) (m := (l9.length : Int).toNat) (k := 3) rfl) fun hf20 => hL6 _ _ (v17, v19, v18) (some b14, (l9.length : Int).toNat) H ⟨rfl, rfl, trivial⟩ ⟨veqN (q := (some b14, (l9.length : Int).toNat)) hf20.1, rfl, trivial⟩ (fun w s => (Sat.relen (q := (some b14, (l9.length : Int).toNat)) (m := (l9.length : Int).toNat) 3 s rfl).pick [0, 3, 2] (by decide) rfl))
   ·intro z16 hz16 HX16 hJ16
    refine T.block ?_
    refine T.loopA (γ := Unit) hz16 [(3, _), (7, _), (8, _), (10, _)] (fun (v21, v22, l23, l24) _ => [(9, .bool v21), (11, .int .i64 v22)]) (fun (v21, v22, l23, l24) _ => Sat w [blk b1 [.int .i64 a0_g.w, .int .i64 a0_g.h, .slice p0 a0_g.tiles.length c0] 24, row nilH 4 (rowV q10 l9.length) l9, row nilH 3 (rowV (some b4, (x2.length : Int).toNat) ((x2.length : Int).toNat)) l23, row nilH 4 (rowV (some b14, (l9.length : Int).toNat) ((l9.length : Int).toNat)) l24]) () ⟨rfl, rfl, rfl, rfl, trivial⟩ ⟨rfl, rfl, trivial⟩ (fun w s => s) ?_
    rintro ⟨v21, v22, l23, l24⟩ ⟨⟩ y25 H hd16 KL16 hL16
    try dsimp only [Ex.then] at H
    refine T.conseq (fr' := [(9, _), (11, _), (3, _), (7, _), (8, _), (10, _)]) ?_ ⟨rfl, rfl, rfl, rfl, rfl, rfl, trivial⟩ (fun _ s => s)
    refine T.seq fun K13 hK13 => ?_
    refine T.seq fun K14 hK14 => ?_
    refine T.region ?_
    refine RS.p (Pu.move rfl) rfl rfl ?_
    refine RS.p (Pu.move rfl) rfl rfl ?_
    refine RS.p (Pu.lenSl sl45 rfl) rfl rfl ?_
    refine RS.p (Pu.bin rfl rfl rfl) rfl rfl ?_
    refine RS.nil (hK14 _ _ ?_)
    refine T.condP rfl (fun hc26 => ?_) (fun hc26 => ?_)
    ·have H := ifT hc26 H
     refine T.skip (hK13 _ _ (T.conseq (fr' := [(3, _), (7, _), (8, _), (9, _), (10, _), (11, _)]) ?_ ⟨rfl, rfl, rfl, rfl, rfl, rfl, trivial⟩ (fun _ s => s)))
     refine T.seq fun K15 hK15 => ?_
     refine T.block ?_
     refine T.seq fun K16 hK16 => ?_
     refine T.seq fun K17 hK17 => ?_
     refine T.region ?_
     refine RS.p (Pu.move rfl) rfl rfl ?_
     refine RS.p (Pu.move rfl) rfl rfl ?_
     obtain ⟨g27, H⟩ := gdE H
     refine RS.know (p := ∃ g cap, q10 = (some g, cap)) (fun w s => s.row_some (k := 1) rfl (pos_of g27)) ?_
     rintro ⟨gg28, cc29, rfl⟩
     refine RS.p (Pu.indexSl sl45 rfl rfl g27) rfl rfl ?_
     refine RS.q (Qt.ld0 (α := Bool) (Rd.ofRowN 1 rfl) ty4 rfl rfl g27 (by rintro _ _ rfl; rfl)) rfl rfl ?_
     refine RS.p (Pu.not rfl) rfl rfl ?_
     refine RS.nil (hK17 _ _ ?_)
     refine T.cond rfl (fun hc30 => ?_) (fun hc30 => ?_)
     ·have H := ifT hc30 H
      refine T.exitTo (by with_reducible (repeat (first | exact ExTo.here | exact ExTo.hereN | exact ExTo.deep (by repeat (first | exact NmTo.seq | apply NmTo.blk)) | apply ExTo.seq | refine ExTo.past (by decide) ?_))) (hK15 _ _ (T.conseq (fr' := [(3, _), (7, _), (8, _), (9, _), (10, _), (11, _)]) ?_ ⟨rfl, rfl, rfl, rfl, rfl, rfl, trivial⟩ (fun _ s => s)))
      refine T.region ?_
      refine RS.p (Pu.move rfl) rfl rfl ?_
      obtain ⟨g31, H⟩ := gdE H
      refine RS.p (Pu.addS rfl rfl g31) rfl rfl ?_
      refine RS.p (Pu.assign rfl) rfl rfl ?_
      refine RS.nil (hL16 _ _ (v21, (v22 + 1), l23, l24) () H ⟨rfl, rfl, rfl, rfl, trivial⟩ ⟨rfl, rfl, trivial⟩ (fun w s => s))
     ·have H := ifB hc30 H
      refine T.skip (hK16 _ _ (T.conseq (fr' := [(3, _), (7, _), (8, _), (9, _), (10, _), (11, _)]) ?_ ⟨rfl, rfl, rfl, rfl, rfl, rfl, trivial⟩ (fun _ s => s)))
      refine T.seq fun K18 hK18 => ?_
      refine T.region ?_
      refine RS.p (Pu.move rfl) rfl rfl ?_
      refine RS.p (Pu.move rfl) rfl rfl ?_
      obtain ⟨g32, H⟩ := gdE H
      refine RS.know (fun w s => s.row_fits (q := (some b4, (x2.length : Int).toNat)) (m := (x2.length : Int).toNat) (k := 2) rfl) fun hf33 => ?_
      refine RS.p (Pu.indexSl sl26 rfl rfl g32) rfl rfl ?_
      refine RS.q (Qt.ld0 (α := Int) (Rd.ofRowN 2 rfl) ty3 rfl rfl (idx_of hf33.1 g32) (by rintro _ _ rfl; rfl)) rfl rfl ?_
      obtain ⟨g34, H⟩ := gdE H
      refine RS.p (Pu.addS rfl rfl g34) rfl rfl ?_
      obtain ⟨g35, H⟩ := gdE H
      refine RS.know (fun w s => s.row_fits (q := (some b4, (x2.length : Int).toNat)) (m := (x2.length : Int).toNat) (k := 2) rfl) fun hf36 => ?_
      refine RS.p (Pu.indexSl sl26 rfl rfl g35) rfl rfl ?_
      refine RS.solid (Sd.st0 (α := Int) 2 ((gi l23 v22) + 1) rfl ty3 rfl rfl rfl (idx_of hf36.1 g35) rfl rfl (by decide) rfl (by rintro _ _ rfl; rfl)) rfl rfl fun _ => ?_
      refine RS.nil (hK18 _ _ (T.conseq (fr' := [(3, _), (7, _), (8, _), (9, _), (10, _), (11, _)]) ?_ ⟨rfl, rfl, rfl, rfl, rfl, rfl, trivial⟩ (fun _ s => s)))
      refine T.seq fun K19 hK19 => ?_
      refine T.region ?_
      refine RS.p (Pu.move rfl) rfl rfl ?_
      refine RS.p (Pu.move rfl) rfl rfl ?_
      obtain ⟨g37, H⟩ := gdE H
      refine RS.know (fun w s => s.row_fits (q := (some b14, (l9.length : Int).toNat)) (m := (l9.length : Int).toNat) (k := 3) rfl) fun hf38 => ?_
      refine RS.p (Pu.indexSl sl45 rfl rfl g37) rfl rfl ?_
      refine RS.solid (Sd.st0 (α := Bool) 3 true rfl ty4 rfl rfl rfl (idx_of hf38.1 g37) rfl rfl (by decide) rfl (by rintro _ _ rfl; rfl)) rfl rfl fun _ => ?_
      refine RS.nil (hK19 _ _ (T.conseq (fr' := [(3, _), (7, _), (8, _), (9, _), (10, _), (11, _)]) ?_ ⟨rfl, rfl, rfl, rfl, rfl, rfl, trivial⟩ (fun _ s => s)))
      refine T.seq fun K20 hK20 => ?_
      refine T.region ?_
      refine RS.q (Qt.ldBA (us := [_, _, _]) 0 ty24 rfl rfl rfl rfl) rfl rfl ?_
      refine RS.p (Pu.move rfl) rfl rfl ?_
      obtain ⟨x39, hx39, H⟩ := bindE H
      refine RS.solid (Sd.callN (vs := [.agg #[.int .i64 a0_g.w, .int .i64 a0_g.h, .slice p0 a0_g.tiles.length c0], .int .i64 v22]) ent51 rfl (fun w s => throngref5_Near_walk a0_g v22 w ((Rd.base h0) w s) hx39)) rfl rfl fun q40 => ?_
      refine RS.p (Pu.assign rfl) rfl rfl ?_
      refine RS.nil (hK20 _ _ (T.conseq (fr' := [(3, _), (7, _), (8, _), (9, _), (10, _), (11, _), (12, _)]) ?_ ⟨rfl, rfl, rfl, rfl, rfl, rfl, rfl, trivial⟩ (fun _ s => s)))
      refine T.seq fun K21 hK21 => ?_
      refine T.seq fun K22 hK22 => ?_
      refine T.region ?_
      refine RS.p (Pu.assign rfl) rfl rfl ?_
      refine RS.nil (hK22 _ _ ?_)
      refine T.joinE (σ := List Bool) (γ := Unit) H (fun s => s) [(3, _), (7, _), (8, _), (9, _), (10, _), (11, _)] ⟨rfl, rfl, rfl, rfl, rfl, rfl, trivial⟩ (fun v42 _ => []) (fun v42 _ => Sat w [blk b1 [.int .i64 a0_g.w, .int .i64 a0_g.h, .slice p0 a0_g.tiles.length c0] 24, row nilH 4 (rowV (some gg28, cc29) l9.length) l9, row nilH 3 (rowV (some b4, (x2.length : Int).toNat) ((x2.length : Int).toNat)) (si l23 v22 ((gi l23 v22) + 1)), row nilH 4 (rowV (some b14, (l9.length : Int).toNat) ((l9.length : Int).toNat)) v42, row nilH 3 (rowV q40 x39.length) x39]) ?_ ?_
      ·rintro v42 ⟨⟩ H
       try dsimp only [Ex.then] at H
       refine Cont.conseq (fr' := [(3, _), (7, _), (8, _), (9, _), (10, _), (11, _)]) ?_ ⟨rfl, rfl, rfl, rfl, rfl, rfl, trivial⟩ (fun _ s => s)
       refine id (hK21 _ _ ?_)
       refine T.region ?_
       refine RS.p (Pu.move rfl) rfl rfl ?_
       refine RS.p (Pu.move rfl) rfl rfl ?_
       obtain ⟨g45, H⟩ := gdE H
       refine RS.joinV 5 76 (.bool (decide ((v21 = true) ∨ ((gi v42 v22) = true)))) [(3, _), (7, _), (8, _), (9, _), (10, _), (11, _)] ⟨rfl, rfl, rfl, rfl, rfl, rfl, trivial⟩ ?_ ?_
       ·refine RS.p (Pu.assign rfl) rfl rfl ?_
        refine RS.nil (hK15 _ _ ?_)
        refine T.region ?_
        refine RS.p (Pu.move rfl) rfl rfl ?_
        obtain ⟨g46, H⟩ := gdE H
        refine RS.p (Pu.addS rfl rfl g46) rfl rfl ?_
        refine RS.p (Pu.assign rfl) rfl rfl ?_
        refine RS.nil (hL16 _ _ (decide ((v21 = true) ∨ ((gi v42 v22) = true)), (v22 + 1), (si l23 v22 ((gi l23 v22) + 1)), v42) () H ⟨rfl, rfl, rfl, rfl, trivial⟩ ⟨rfl, rfl, trivial⟩ (fun w s => s.pick [0, 1, 2, 3] (by decide) rfl))
       ·intro hJ44
        refine RS.split 71 rfl (fun hc43 => ?_) (fun hc43 => ?_)
        ·refine RS.no rfl rfl ?_
         refine RS.no rfl rfl ?_
         refine RS.no rfl rfl ?_
         refine RS.no rfl rfl ?_
         refine RS.p (Pu.pickT rfl rfl) rfl rfl ?_
         exact hJ44 _ _ ⟨dOrT hc43, rfl, rfl, rfl, rfl, rfl, rfl, trivial⟩ (fun w s => s)
        ·refine RS.p (Pu.move rfl) rfl rfl ?_
         refine RS.p (Pu.move rfl) rfl rfl ?_
         refine RS.know (fun w s => s.row_fits (q := (some b14, (l9.length : Int).toNat)) (m := (l9.length : Int).toNat) (k := 3) rfl) fun hf47 => ?_
         refine RS.p (Pu.indexSl sl45 rfl rfl (g45 (bne_of hc43))) rfl rfl ?_
         refine RS.q (Qt.ld0 (α := Bool) (Rd.ofRowN 3 rfl) ty4 rfl rfl (idx_of hf47.1 (g45 (bne_of hc43))) (by rintro _ _ rfl; rfl)) rfl rfl ?_
         refine RS.p (Pu.pickF rfl rfl) rfl rfl ?_
         exact hJ44 _ _ ⟨dOrFB (bne_of hc43), rfl, rfl, rfl, rfl, rfl, rfl, trivial⟩ (fun w s => s)
      ·intro z41 hz41 HX41 hJ41
       refine T.block ?_
       refine T.loopA (γ := Unit) hz41 [(3, _), (7, _), (8, _), (9, _), (10, _), (11, _), (12, _)] (fun (v48, l49) _ => [(13, .int .i64 v48)]) (fun (v48, l49) _ => Sat w [blk b1 [.int .i64 a0_g.w, .int .i64 a0_g.h, .slice p0 a0_g.tiles.length c0] 24, row nilH 4 (rowV (some gg28, cc29) l9.length) l9, row nilH 3 (rowV (some b4, (x2.length : Int).toNat) ((x2.length : Int).toNat)) (si l23 v22 ((gi l23 v22) + 1)), row nilH 4 (rowV (some b14, (l9.length : Int).toNat) ((l9.length : Int).toNat)) l49, row nilH 3 (rowV q40 x39.length) x39]) () ⟨rfl, rfl, rfl, rfl, rfl, rfl, rfl, trivial⟩ ⟨rfl, trivial⟩ (fun w s => s) ?_
       rintro ⟨v48, l49⟩ ⟨⟩ y50 H hd41 KL41 hL41
       try dsimp only [Ex.then] at H
       refine T.conseq (fr' := [(13, _), (3, _), (7, _), (8, _), (9, _), (10, _), (11, _), (12, _)]) ?_ ⟨rfl, rfl, rfl, rfl, rfl, rfl, rfl, rfl, trivial⟩ (fun _ s => s)
       refine T.seq fun K23 hK23 => ?_
       refine T.seq fun K24 hK24 => ?_
       refine T.region ?_
       refine RS.p (Pu.move rfl) rfl rfl ?_
       refine RS.p (Pu.bin rfl rfl rfl) rfl rfl ?_
       refine RS.nil (hK24 _ _ ?_)
       refine T.condP rfl (fun hc51 => ?_) (fun hc51 => ?_)
       ·have H := ifT hc51 H
        refine T.skip (hK23 _ _ ?_)
        refine T.seq fun K25 hK25 => ?_
        refine T.block ?_
        refine T.seq fun K26 hK26 => ?_
        refine T.region ?_
        refine RS.p (Pu.move rfl) rfl rfl ?_
        refine RS.p (Pu.move rfl) rfl rfl ?_
        obtain ⟨g52, H⟩ := gdE H
        refine RS.know (p := ∃ g cap, q40 = (some g, cap)) (fun w s => s.row_some (k := 4) rfl (pos_of g52)) ?_
        rintro ⟨gg53, cc54, rfl⟩
        refine RS.p (Pu.indexSl sl26 rfl rfl g52) rfl rfl ?_
        refine RS.q (Qt.ld0 (α := Int) (Rd.ofRowN 4 rfl) ty3 rfl rfl g52 (by rintro _ _ rfl; rfl)) rfl rfl ?_
        refine RS.p (Pu.bin rfl rfl rfl) rfl rfl ?_
        refine RS.p (Pu.move rfl) rfl rfl ?_
        obtain ⟨g57, H⟩ := gdE H
        obtain ⟨g58, H⟩ := gdE H
        refine RS.joinV 9 66 (.bool (decide (((gi x39 v48) < 0) ∨ ((!(gi l9 (gi x39 v48))) = true)))) [(3, _), (7, _), (8, _), (9, _), (10, _), (11, _), (12, _), (13, _)] ⟨rfl, rfl, rfl, rfl, rfl, rfl, rfl, rfl, trivial⟩ ?_ ?_
        ·refine RS.nil (hK26 _ _ ?_)
         refine T.condP rfl (fun hc59 => ?_) (fun hc59 => ?_)
         ·have H := ifT hc59 H
          refine T.region ?_
          refine RS.p (Pu.move rfl) rfl rfl ?_
          refine RS.p (Pu.move rfl) rfl rfl ?_
          obtain ⟨g60, H⟩ := gdE H
          refine RS.know (fun w s => s.row_fits (q := (some b14, (l9.length : Int).toNat)) (m := (l9.length : Int).toNat) (k := 3) rfl) fun hf61 => ?_
          refine RS.p (Pu.indexSl sl45 rfl rfl g60) rfl rfl ?_
          refine RS.solid (Sd.st0 (α := Bool) 3 false rfl ty4 rfl rfl rfl (idx_of hf61.1 g60) rfl rfl (by decide) rfl (by rintro _ _ rfl; rfl)) rfl rfl fun _ => ?_
          refine RS.nil (hK25 _ _ (T.conseq (fr' := [(3, _), (7, _), (8, _), (9, _), (10, _), (11, _), (12, _), (13, _)]) ?_ ⟨rfl, rfl, rfl, rfl, rfl, rfl, rfl, rfl, trivial⟩ (fun _ s => s)))
          refine T.region ?_
          refine RS.p (Pu.move rfl) rfl rfl ?_
          obtain ⟨g62, H⟩ := gdE H
          refine RS.p (Pu.addS rfl rfl g62) rfl rfl ?_
          refine RS.p (Pu.assign rfl) rfl rfl ?_
          refine RS.nil (hL41 _ _ ((v48 + 1), (si l49 v22 false)) () H ⟨rfl, rfl, rfl, rfl, rfl, rfl, rfl, trivial⟩ ⟨rfl, trivial⟩ (fun w s => s))
         ·have H := ifF hc59 H
          refine T.skip (hK25 _ _ ?_)
          refine T.region ?_
          refine RS.p (Pu.move rfl) rfl rfl ?_
          obtain ⟨g63, H⟩ := gdE H
          refine RS.p (Pu.addS rfl rfl g63) rfl rfl ?_
          refine RS.p (Pu.assign rfl) rfl rfl ?_
          refine RS.nil (hL41 _ _ ((v48 + 1), l49) () H ⟨rfl, rfl, rfl, rfl, rfl, rfl, rfl, trivial⟩ ⟨rfl, trivial⟩ (fun w s => s))
        ·intro hJ56
         refine RS.splitP 57 rfl (fun hc55 => ?_) (fun hc55 => ?_)
         ·refine RS.no rfl rfl ?_
          refine RS.no rfl rfl ?_
          refine RS.no rfl rfl ?_
          refine RS.no rfl rfl ?_
          refine RS.no rfl rfl ?_
          refine RS.no rfl rfl ?_
          refine RS.no rfl rfl ?_
          refine RS.no rfl rfl ?_
          refine RS.p (Pu.pickT rfl rfl) rfl rfl ?_
          exact hJ56 _ _ ⟨dOrT hc55, rfl, rfl, rfl, rfl, rfl, rfl, rfl, rfl, trivial⟩ (fun w s => s)
         ·refine RS.p (Pu.move rfl) rfl rfl ?_
          refine RS.p (Pu.move rfl) rfl rfl ?_
          refine RS.p (Pu.move rfl) rfl rfl ?_
          refine RS.p (Pu.indexSl sl26 rfl rfl (g57 hc55)) rfl rfl ?_
          refine RS.q (Qt.ld0 (α := Int) (Rd.ofRowN 4 rfl) ty3 rfl rfl (g57 hc55) (by rintro _ _ rfl; rfl)) rfl rfl ?_
          refine RS.p (Pu.indexSl sl45 rfl rfl (g58 hc55)) rfl rfl ?_
          refine RS.q (Qt.ld0 (α := Bool) (Rd.ofRowN 1 rfl) ty4 rfl rfl (g58 hc55) (by rintro _ _ rfl; rfl)) rfl rfl ?_
          refine RS.p (Pu.not rfl) rfl rfl ?_
          refine RS.p (Pu.pickF rfl rfl) rfl rfl ?_
          exact hJ56 _ _ ⟨dOrFB hc55, rfl, rfl, rfl, rfl, rfl, rfl, rfl, rfl, trivial⟩ (fun w s => s)
       ·have H := ifF hc51 H
        obtain rfl := hd41 _ H
        refine T.exitTo (by with_reducible (repeat (first | exact ExTo.here | exact ExTo.hereN | exact ExTo.deep (by repeat (first | exact NmTo.seq | apply NmTo.blk)) | apply ExTo.seq | refine ExTo.past (by decide) ?_))) (hJ41 _ _ l49 () HX41 ⟨rfl, rfl, rfl, rfl, rfl, rfl, trivial⟩ trivial (fun w s => s))
    ·have H := ifF hc26 H
     obtain rfl := hd16 _ H
     refine T.exitTo (by with_reducible (repeat (first | exact ExTo.here | exact ExTo.hereN | exact ExTo.deep (by repeat (first | exact NmTo.seq | apply NmTo.blk)) | apply ExTo.seq | refine ExTo.past (by decide) ?_))) (hJ16 _ _ (v21, l23, l24) () HX16 ⟨rfl, rfl, rfl, trivial⟩ ⟨rfl, trivial⟩ (fun w s => s))
  ·have H := ifB hc13 H
   obtain rfl := hd6 _ H
   refine T.exitTo (by with_reducible (repeat (first | exact ExTo.here | exact ExTo.hereN | exact ExTo.deep (by repeat (first | exact NmTo.seq | apply NmTo.blk)) | apply ExTo.seq | refine ExTo.past (by decide) ?_))) (hJ6 _ _ l11 () HX6 ⟨rfl, trivial⟩ trivial (fun w s => (s.deadRow).pick [0, 3, 2] (by decide) rfl))
end Go.Proofs.Ytgpjjcncdaelpaa
