/-
  Walks of what the statements of the fields call: the smaller functions.
-/
import Derived.Test.YthdbofgcckjopaaGreatRows
import Derived.Test.YthdbofgcckjopaaGreatW3
import Derived.Test.YthdbofgcckjopaaGreatFG
import Derived.Test.YthdbofgcckjopaaGreatBH
set_option linter.unusedVariables false
set_option linter.unusedSimpArgs false
set_option maxRecDepth 20000
set_option maxHeartbeats 4000000
namespace Go.Proofs.YthdbofgcckjopaaGreat
open Go.Vg
open Enc (R)
theorem ar124 : arTy Tryz.prog 124 = some (8, 3, 1) := by kernel_rfl
theorem ar174 : arTy Tryz.prog 174 = some (6, 3, 1) := by kernel_rfl
theorem ar198 : arTy Tryz.prog 198 = some (2, 3, 1) := by kernel_rfl
theorem ar204 : arTy Tryz.prog 204 = some (8, 198, 2) := by kernel_rfl
theorem at124 : atTy Tryz.prog 124 = some ([.int .i64 0, .int .i64 0, .int .i64 0, .int .i64 0, .int .i64 0, .int .i64 0, .int .i64 0, .int .i64 0], 1) := by kernel_rfl
theorem at174 : atTy Tryz.prog 174 = some ([.int .i64 0, .int .i64 0, .int .i64 0, .int .i64 0, .int .i64 0, .int .i64 0], 1) := by kernel_rfl
theorem at198 : atTy Tryz.prog 198 = some ([.int .i64 0, .int .i64 0], 1) := by kernel_rfl
theorem at204 : atTy Tryz.prog 204 = some ([.int .i64 0, .int .i64 0, .int .i64 0, .int .i64 0, .int .i64 0, .int .i64 0, .int .i64 0, .int .i64 0, .int .i64 0, .int .i64 0, .int .i64 0, .int .i64 0, .int .i64 0, .int .i64 0, .int .i64 0, .int .i64 0], 2) := by kernel_rfl
theorem ent102 : Ent Tryz.prog 102 := ⟨_, _, Tryz.func102, by kernel_rfl, rfl⟩
theorem ent103 : Ent Tryz.prog 103 := ⟨_, _, Tryz.func103, by kernel_rfl, rfl⟩
theorem ent104 : Ent Tryz.prog 104 := ⟨_, _, Tryz.func104, by kernel_rfl, rfl⟩
theorem ent105 : Ent Tryz.prog 105 := ⟨_, _, Tryz.func105, by kernel_rfl, rfl⟩
theorem ent108 : Ent Tryz.prog 108 := ⟨_, _, Tryz.func108, by kernel_rfl, rfl⟩
theorem ent109 : Ent Tryz.prog 109 := ⟨_, _, Tryz.func109, by kernel_rfl, rfl⟩
theorem ent110 : Ent Tryz.prog 110 := ⟨_, _, Tryz.func110, by kernel_rfl, rfl⟩
theorem ent126 : Ent Tryz.prog 126 := ⟨_, _, Tryz.func126, by kernel_rfl, rfl⟩
theorem ent127 : Ent Tryz.prog 127 := ⟨_, _, Tryz.func127, by kernel_rfl, rfl⟩
theorem ent128 : Ent Tryz.prog 128 := ⟨_, _, Tryz.func128, by kernel_rfl, rfl⟩
theorem ent133 : Ent Tryz.prog 133 := ⟨_, _, Tryz.func133, by kernel_rfl, rfl⟩
theorem ent134 : Ent Tryz.prog 134 := ⟨_, _, Tryz.func134, by kernel_rfl, rfl⟩
theorem ent135 : Ent Tryz.prog 135 := ⟨_, _, Tryz.func135, by kernel_rfl, rfl⟩
theorem ent136 : Ent Tryz.prog 136 := ⟨_, _, Tryz.func136, by kernel_rfl, rfl⟩
theorem ent154 : Ent Tryz.prog 154 := ⟨_, _, Tryz.func154, by kernel_rfl, rfl⟩
theorem ent32 : Ent Tryz.prog 32 := ⟨_, _, Tryz.func32, by kernel_rfl, rfl⟩
theorem ent36 : Ent Tryz.prog 36 := ⟨_, _, Tryz.func36, by kernel_rfl, rfl⟩
theorem ent37 : Ent Tryz.prog 37 := ⟨_, _, Tryz.func37, by kernel_rfl, rfl⟩
theorem ent38 : Ent Tryz.prog 38 := ⟨_, _, Tryz.func38, by kernel_rfl, rfl⟩
theorem ent44 : Ent Tryz.prog 44 := ⟨_, _, Tryz.func44, by kernel_rfl, rfl⟩
theorem ent45 : Ent Tryz.prog 45 := ⟨_, _, Tryz.func45, by kernel_rfl, rfl⟩
theorem ent50 : Ent Tryz.prog 50 := ⟨_, _, Tryz.func50, by kernel_rfl, rfl⟩
theorem ent55 : Ent Tryz.prog 55 := ⟨_, _, Tryz.func55, by kernel_rfl, rfl⟩
theorem ent60 : Ent Tryz.prog 60 := ⟨_, _, Tryz.func60, by kernel_rfl, rfl⟩
theorem ent63 : Ent Tryz.prog 63 := ⟨_, _, Tryz.func63, by kernel_rfl, rfl⟩
theorem ent64 : Ent Tryz.prog 64 := ⟨_, _, Tryz.func64, by kernel_rfl, rfl⟩
theorem ent65 : Ent Tryz.prog 65 := ⟨_, _, Tryz.func65, by kernel_rfl, rfl⟩
theorem ent66 : Ent Tryz.prog 66 := ⟨_, _, Tryz.func66, by kernel_rfl, rfl⟩
theorem ent75 : Ent Tryz.prog 75 := ⟨_, _, Tryz.func75, by kernel_rfl, rfl⟩
theorem ent88 : Ent Tryz.prog 88 := ⟨_, _, Tryz.func88, by kernel_rfl, rfl⟩
theorem ent93 : Ent Tryz.prog 93 := ⟨_, _, Tryz.func93, by kernel_rfl, rfl⟩
theorem ent95 : Ent Tryz.prog 95 := ⟨_, _, Tryz.func95, by kernel_rfl, rfl⟩
theorem fd101_0 : fdOff Tryz.prog 101 0 = some 0 := by kernel_rfl
theorem fd101_1 : fdOff Tryz.prog 101 1 = some 3 := by kernel_rfl
theorem fd101_2 : fdOff Tryz.prog 101 2 = some 4 := by kernel_rfl
theorem fd190_0 : fdOff Tryz.prog 190 0 = some 0 := by kernel_rfl
theorem fd195_0 : fdOff Tryz.prog 195 0 = some 0 := by kernel_rfl
theorem fd195_1 : fdOff Tryz.prog 195 1 = some 1 := by kernel_rfl
theorem fd39_0 : fdOff Tryz.prog 39 0 = some 0 := by kernel_rfl
theorem fd39_1 : fdOff Tryz.prog 39 1 = some 3 := by kernel_rfl
theorem fd39_4 : fdOff Tryz.prog 39 4 = some 6 := by kernel_rfl
theorem sl188 : slTy Tryz.prog 188 = some (195, 2, 16) := by kernel_rfl
theorem sl199 : slTy Tryz.prog 199 = some (198, 2, 16) := by kernel_rfl
theorem st101 : stTy Tryz.prog 101 = some ([.int .i64 0, .int .i64 0, .slice none 0 0, .int .i64 0, .slice none 0 0], [(0, 3), (3, 1), (4, 1)]) := by kernel_rfl
theorem st190 : stTy Tryz.prog 190 = some ([.slice none 0 0], [(0, 1)]) := by kernel_rfl
theorem st195 : stTy Tryz.prog 195 = some ([.int .i64 0, .int .i64 0], [(0, 1), (1, 1)]) := by kernel_rfl
theorem ty124 : tySz Tryz.prog 124 = some (8, true) := by kernel_rfl
theorem ty174 : tySz Tryz.prog 174 = some (6, true) := by kernel_rfl
theorem ty188 : tySz Tryz.prog 188 = some (1, false) := by kernel_rfl
theorem ty195 : tySz Tryz.prog 195 = some (2, true) := by kernel_rfl
theorem ty198 : tySz Tryz.prog 198 = some (2, true) := by kernel_rfl
theorem ty204 : tySz Tryz.prog 204 = some (16, true) := by kernel_rfl
theorem ty23 : tySz Tryz.prog 23 = some (1, false) := by kernel_rfl
theorem ty37 : tySz Tryz.prog 37 = some (1, false) := by kernel_rfl
theorem ty59 : tySz Tryz.prog 59 = some (1, false) := by kernel_rfl
theorem zr124 : zeroOf Tryz.prog 124 = some (.agg #[.int .i64 0, .int .i64 0, .int .i64 0, .int .i64 0, .int .i64 0, .int .i64 0, .int .i64 0, .int .i64 0]) := by kernel_rfl
theorem zr174 : zeroOf Tryz.prog 174 = some (.agg #[.int .i64 0, .int .i64 0, .int .i64 0, .int .i64 0, .int .i64 0, .int .i64 0]) := by kernel_rfl
theorem zr195 : zeroOf Tryz.prog 195 = some (.agg #[.int .i64 0, .int .i64 0]) := by kernel_rfl
theorem zr198 : zeroOf Tryz.prog 198 = some (.agg #[.int .i64 0, .int .i64 0]) := by kernel_rfl
theorem zr204 : zeroOf Tryz.prog 204 = some (.agg #[.int .i64 0, .int .i64 0, .int .i64 0, .int .i64 0, .int .i64 0, .int .i64 0, .int .i64 0, .int .i64 0, .int .i64 0, .int .i64 0, .int .i64 0, .int .i64 0, .int .i64 0, .int .i64 0, .int .i64 0, .int .i64 0]) := by kernel_rfl
theorem kind_Class_walk (a0_c : Int) (w : World) {r : Bool} (H : kind_Class a0_c = some r) : Calls Tryz.prog 110 #[.int .i64 a0_c] w fun e w' => e = .returned (.bool r) ∧ Ext w w' := by
 unfold kind_Class at H
 refine T.enter (args := [_]) (S := Sat w []) Tryz.func110 rfl rfl (Sat.start w) ?_
 refine T.seq fun K1 hK1 => T.region (rA rfl (RS.nil (hK1 _ _ ?_)))
 refine T.seq fun K2 hK2 => T.region (rM rfl (rp (Pu.bin rfl rfl rfl) (rM rfl ?_)))
 refine RS.joinV 3 8 (.bool (decide ((0 ≤ a0_c) ∧ (a0_c ≤ 2)))) [(2, _)] ⟨rfl, trivial⟩ ?_ ?_
 ·refine rA rfl (RS.nil (hK2 _ _ ?_))
  obtain rfl := sj H
  refine T.rt (Cont.ret1 rfl rfl fun w' s => ?_)
  exact ⟨rfl, s.ext⟩
 ·intro hJ2
  refine RS.splitP 5 rfl (fun hc1 => ?_) (fun hc1 => ?_)
  ·refine rM rfl (rp (Pu.bin rfl rfl rfl) (rp (Pu.pickT rfl rfl) ?_))
   exact hJ2 _ _ ⟨dAndT hc1, rfl, trivial⟩ (fun w s => s)
  ·refine ro (ro (rp (Pu.pickF rfl rfl) ?_))
   exact hJ2 _ _ ⟨dAndF hc1, rfl, trivial⟩ (fun w s => s)
theorem kind_Price_walk (a0_class : Int) (a1_terrain : Int) (w : World) {r : Int} (H : kind_Price a0_class a1_terrain = some r) : Calls Tryz.prog 135 #[.int .i64 a0_class, .int .u8 a1_terrain] w fun e w' => e = .returned (.int .i64 r) ∧ Ext w w' := by
 unfold kind_Price at H
 refine T.enter (args := [_, _]) (S := Sat w []) Tryz.func135 rfl rfl (Sat.start w) ?_
 refine T.seq fun K1 hK1 => T.region (rA rfl (RS.nil (hK1 _ _ ?_)))
 refine T.seq fun K2 hK2 => T.region (RS.solid (Sd.alloc (cs := nums (List.replicate 6 0)) zr174 rfl) rfl rfl fun b1 => RS.nil (hK2 _ _ ?_))
 refine T.seq fun K3 hK3 => T.seq fun K4 hK4 => T.region (rM rfl (RS.nil (hK4 _ _ ?_)))
 refine T.block (T.seq fun K5 hK5 => T.region (rp (Pu.bin rfl rfl rfl) (rA rfl (RS.nil (hK5 _ _ ?_)))))
 refine T.condP rfl (fun hc2 => ?_) (fun hc2 => ?_)
 ·have H := ifT hc2 H
  refine cq [(1, _), (5, _)] ?_
  refine T.region (rp (Pu.buildAr (cells := [_, _, _, _, _, _]) at174 rfl rfl) ?_)
  obtain ⟨g3, H⟩ := gdE H
  refine RS.solid (Sd.stB (cs' := nums [2, 1, 3, 5, 0, 0]) (us := nums [2, 1, 3, 5, 0, 0]) 0 ty174 rfl rfl rfl (by first | rfl | simp [Value.cells]) (by simp [nums, (g3).2]) (by simp [nums, (g3).1]) (by simp [nums, Value.oneCell']) (by rw [List.take_zero, List.nil_append, List.drop_of_length_le (by simp [nums, (g3).1]), List.append_nil])) rfl rfl fun _ => RS.nil (hK3 _ _ ?_)
  refine T.seq fun K6 hK6 => T.region (rM rfl ?_)
  obtain ⟨g4, H⟩ := gdE H
  refine rp (Pu.indexAr ar174 rfl rfl (by have := g4; omega)) (rq (Qt.ldAr 0 ty3 rfl rfl rfl (by have := g4; omega)) (rA rfl (RS.nil (hK6 _ _ (cq [(4, _)] ?_)))))
  obtain rfl := sj H
  refine T.rt (Cont.ret1 rfl rfl fun w' s => ?_)
  exact ⟨rfl, s.ext⟩
 ·have H := ifF hc2 H
  refine cq [(1, _), (5, _), (6, _)] ?_
  refine T.seq fun K7 hK7 => T.region (rp (Pu.bin rfl rfl rfl) (rA rfl (RS.nil (hK7 _ _ ?_))))
  refine T.condP rfl (fun hc5 => ?_) (fun hc5 => ?_)
  ·have H := ifT hc5 H
   refine cq [(1, _), (5, _)] ?_
   refine T.region (rp (Pu.buildAr (cells := [_, _, _, _, _, _]) at174 rfl rfl) ?_)
   obtain ⟨g6, H⟩ := gdE H
   refine RS.solid (Sd.stB (cs' := nums [2, 1, 6, 0, 0, 0]) (us := nums [2, 1, 6, 0, 0, 0]) 0 ty174 rfl rfl rfl (by first | rfl | simp [Value.cells]) (by simp [nums, (g6).2]) (by simp [nums, (g6).1]) (by simp [nums, Value.oneCell']) (by rw [List.take_zero, List.nil_append, List.drop_of_length_le (by simp [nums, (g6).1]), List.append_nil])) rfl rfl fun _ => RS.nil (hK3 _ _ ?_)
   refine T.seq fun K8 hK8 => T.region (rM rfl ?_)
   obtain ⟨g7, H⟩ := gdE H
   refine rp (Pu.indexAr ar174 rfl rfl (by have := g7; omega)) (rq (Qt.ldAr 0 ty3 rfl rfl rfl (by have := g7; omega)) (rA rfl (RS.nil (hK8 _ _ (cq [(4, _)] ?_)))))
   obtain rfl := sj H
   refine T.rt (Cont.ret1 rfl rfl fun w' s => ?_)
   exact ⟨rfl, s.ext⟩
  ·have H := ifF hc5 H
   refine cq [(1, _), (5, _)] ?_
   refine T.region (rp (Pu.buildAr (cells := [_, _, _, _, _, _]) at174 rfl rfl) ?_)
   obtain ⟨g8, H⟩ := gdE H
   refine RS.solid (Sd.stB (cs' := nums [2, 1, 0, 3, 2, 0]) (us := nums [2, 1, 0, 3, 2, 0]) 0 ty174 rfl rfl rfl (by first | rfl | simp [Value.cells]) (by simp [nums, (g8).2]) (by simp [nums, (g8).1]) (by simp [nums, Value.oneCell']) (by rw [List.take_zero, List.nil_append, List.drop_of_length_le (by simp [nums, (g8).1]), List.append_nil])) rfl rfl fun _ => RS.nil (hK3 _ _ ?_)
   refine T.seq fun K9 hK9 => T.region (rM rfl ?_)
   obtain ⟨g9, H⟩ := gdE H
   refine rp (Pu.indexAr ar174 rfl rfl (by have := g9; omega)) (rq (Qt.ldAr 0 ty3 rfl rfl rfl (by have := g9; omega)) (rA rfl (RS.nil (hK9 _ _ (cq [(4, _)] ?_)))))
   obtain rfl := sj H
   refine T.rt (Cont.ret1 rfl rfl fun w' s => ?_)
   exact ⟨rfl, s.ext⟩
theorem ground_Ways_walk (w : World) {r : List Int} (H : ground_Ways = some r) : Calls Tryz.prog 133 #[] w fun e w' => e = .returned (.agg (nums r).toArray) ∧ Ext w w' := by
 unfold ground_Ways at H
 refine T.enter (args := []) (S := Sat w []) Tryz.func133 rfl rfl (Sat.start w) ?_
 refine T.seq fun K1 hK1 => T.region (RS.solid (Sd.alloc (cs := nums (List.replicate 16 0)) zr204 rfl) rfl rfl fun b1 => RS.nil (hK1 _ _ ?_))
 refine T.seq fun K2 hK2 => T.region (rp (Pu.buildAr (cells := [_, _]) at198 rfl rfl) (rp (Pu.buildAr (cells := [_, _]) at198 rfl rfl) (rp (Pu.buildAr (cells := [_, _]) at198 rfl rfl) (rp (Pu.buildAr (cells := [_, _]) at198 rfl rfl) (rp (Pu.buildAr (cells := [_, _]) at198 rfl rfl) (rp (Pu.buildAr (cells := [_, _]) at198 rfl rfl) (rp (Pu.buildAr (cells := [_, _]) at198 rfl rfl) (rp (Pu.buildAr (cells := [_, _]) at198 rfl rfl) (rp (Pu.buildAr (cells := [_, _, _, _, _, _, _, _, _, _, _, _, _, _, _, _]) at204 rfl rfl) ?_)))))))))
 obtain ⟨g2, H⟩ := gdE H
 refine RS.solid (Sd.stB (cs' := nums [0, (-1), 1, 0, 0, 1, (-1), 0, 1, (-1), 1, 1, (-1), 1, (-1), (-1)]) (us := nums [0, (-1), 1, 0, 0, 1, (-1), 0, 1, (-1), 1, 1, (-1), 1, (-1), (-1)]) 0 ty204 rfl rfl rfl (by first | rfl | simp [Value.cells]) (by simp [nums, (g2).2]) (by simp [nums, (g2).1]) (by simp [nums, Value.oneCell']) (by rw [List.take_zero, List.nil_append, List.drop_of_length_le (by simp [nums, (g2).1]), List.append_nil])) rfl rfl fun _ => RS.nil (hK2 _ _ (cq [(0, _)] ?_))
 obtain ⟨g3, H⟩ := gdE H
 obtain rfl := sj H
 refine T.rt (Cont.retC 0 rfl ty204 rfl rfl (by simp [nums, g3]) fun w' s => ?_)
 exact ⟨rfl, s.ext⟩
theorem ground_Beside_walk (a0_g : Grd) (a1_t : Int) (w : World) {v0 : Value} (h0 : R (hpOf w) a0_g.tiles [v0]) {r : List Int} (H : ground_Beside a0_g a1_t = some r) : Calls Tryz.prog 104 #[.agg #[.int .i64 a0_g.w, .int .i64 a0_g.h, v0], .int .i64 a1_t] w fun e w' => e = .returned (.agg (nums r).toArray) ∧ Ext w w' := by
 have hm0 := R_max h0
 obtain ⟨p0, c0, rfl⟩ := R_form h0
 unfold ground_Beside at H
 refine T.enter (args := [_, _]) (S := Sat w []) Tryz.func104 rfl rfl (Sat.start w) ?_
 refine T.seq fun K1 hK1 => T.region (RS.solid (Sd.box (cs := [_, _, _]) rfl rfl) rfl rfl fun b1 => RS.solid (Sd.alloc (cs := nums (List.replicate 8 0)) zr124 rfl) rfl rfl fun b2 => RS.nil (hK1 _ _ ?_))
 refine T.seq fun K2 hK2 => ?_
 refine T.drawn (fun _ => True) [(0, .pu), (1, .pu), (2, .rd), (3, .pu), (4, .pu), (5, .pu), (6, .rd), (7, .pu), (8, .pu), (9, .pu)] mixed (ClE.sat _ _) (by kernel_rfl) ?_
 refine dp rfl (Pu.move rfl) (dp rfl (Pu.fieldAddr fd36_0 rfl) (dq rfl (Qt.ldB 0 ty3 rfl rfl rfl) ?_))
 obtain ⟨g3, H⟩ := gdE H
 refine dp rfl (Pu.remN rfl rfl (and3 g3)) (dp rfl (Pu.move rfl) (dp rfl (Pu.fieldAddr fd36_0 rfl) (dq rfl (Qt.ldB 0 ty3 rfl rfl rfl) ?_)))
 obtain ⟨g4, H⟩ := gdE H
 refine dp rfl (Pu.quoN rfl rfl g4) (dp rfl (Pu.assign rfl) (dp rfl (Pu.assign rfl) (RD.nil (hK2 _ _ (cq [(2, _), (4, _), (5, _), (6, _)] ?_)))))
 refine T.seq fun K3 hK3 => T.seq fun K4 hK4 => T.region ?_
 obtain ⟨x5, hx5, H⟩ := bindE H
 refine rq (Qt.call (vs := []) ent133 rfl fun w s => ground_Ways_walk  w  hx5) (rM rfl (RS.nil (hK4 _ _ ?_)))
 refine T.joinE (σ := List Int) (γ := Unit) H (fun s => s) [(4, _)] ⟨rfl, trivial⟩ (fun v7 _ => []) (fun v7 _ => Sat w [blk b1 [.int .i64 a0_g.w, .int .i64 a0_g.h, .slice p0 a0_g.tiles.length c0] 36, blk b2 (nums v7) 124]) ?_ ?_
 ·rintro v7 ⟨⟩ H
  try dsimp only [Ex.then] at H
  refine Cont.conseq (fr' := [(4, _)]) ?_ ⟨rfl, trivial⟩ (fun _ s => s)
  refine id (hK3 _ _ ?_)
  refine T.seq fun K5 hK5 => T.region ?_
  obtain ⟨g8, H⟩ := gdE H
  refine rq (Qt.ldBA (us := nums v7) 1 ty124 rfl rfl (by rw [List.drop_zero]; exact List.take_of_length_le (by simp [nums, g8])) (by simp [nums, g8])) ?_
  obtain ⟨g9, H⟩ := gdE H
  refine RS.solid (Sd.stB (cs' := nums v7) (us := nums v7) 1 ty124 rfl rfl rfl (by first | rfl | simp [Value.cells]) (by simp [nums, (g9).2]) (by simp [nums, (g9).1]) (by simp [nums, Value.oneCell']) (by rw [List.take_zero, List.nil_append, List.drop_of_length_le (by simp [nums, (g9).1]), List.append_nil])) rfl rfl fun _ => RS.nil (hK5 _ _ ?_)
  obtain ⟨g10, H⟩ := gdE H
  obtain rfl := sj H
  refine T.rt (Cont.retC 1 rfl ty124 rfl rfl (by simp [nums, g10]) fun w' s => ?_)
  exact ⟨rfl, s.ext⟩
 ·intro z6 hz6 HX6 hJ6
  refine T.block ?_
  refine T.loopA (γ := Unit) hz6 [(2, _), (4, _), (5, _), (6, _), (17, _)] (fun (v11, v12) _ => [(18, .int .i64 v11)]) (fun (v11, v12) _ => Sat w [blk b1 [.int .i64 a0_g.w, .int .i64 a0_g.h, .slice p0 a0_g.tiles.length c0] 36, blk b2 (nums v12) 124]) () ⟨rfl, rfl, rfl, rfl, rfl, trivial⟩ ⟨rfl, trivial⟩ (fun w s => s) ?_
  rintro ⟨v11, v12⟩ ⟨⟩ y13 H hd6 KL6 hL6
  try dsimp only [Ex.then] at H
  refine cq [(18, _), (2, _), (4, _), (5, _), (6, _), (17, _)] ?_
  refine T.seq fun K6 hK6 => T.region (rp (Pu.bin rfl rfl rfl) (RS.nil (hK6 _ _ ?_)))
  refine T.seq fun K7 hK7 => ?_
  refine T.condP rfl (fun hc14 => ?_) (fun hc14 => ?_)
  ·have H := ifT hc14 H
   refine T.skip (hK7 _ _ ?_)
   refine T.seq fun K8 hK8 => T.block (T.seq fun K9 hK9 => T.region (rM rfl ?_))
   obtain ⟨g15, H⟩ := gdE H
   refine rp (Pu.indexN2 (xs := x5) ar204 ty198 rfl rfl g15) (RS.solid (Sd.alloc zr198 rfl) rfl rfl fun b16 => rA rfl (RS.solid (Sd.stB (cs' := [_, _]) 2 ty198 rfl rfl rfl rfl rfl rfl rfl rfl) rfl rfl fun _ => RS.nil (hK9 _ _ (cq [(2, _), (4, _), (5, _), (6, _), (7, _), (8, _), (17, _), (18, _)] ?_))))
   refine T.seq fun K10 hK10 => T.region (rM rfl ?_)
   obtain ⟨g17, H⟩ := gdE H
   refine rp (Pu.indexAr ar124 rfl rfl (by have := g17; omega)) (RS.solid (Sd.stAr 1 ty3 rfl rfl rfl rfl (by have := g17; omega)) rfl rfl fun _ => RS.nil (hK10 _ _ ?_))
   refine T.seq fun K11 hK11 => T.region (rq (Qt.ldBA (us := [_, _, _]) 0 ty36 rfl rfl rfl rfl) (rM rfl (rp (Pu.indexAr ar198 rfl rfl (by omega)) (rq (Qt.ldB 2 ty3 rfl rfl rfl) ?_))))
   obtain ⟨g18, H⟩ := gdE H
   refine rp (Pu.addS rfl rfl g18) (rM rfl (rp (Pu.indexAr ar198 rfl rfl (by omega)) (rq (Qt.ldB 2 ty3 rfl rfl rfl) ?_)))
   obtain ⟨g19, H⟩ := gdE H
   refine rp (Pu.addS rfl rfl g19) ?_
   obtain ⟨x20, hx20, H⟩ := bindE H
   refine rq (Qt.call (vs := [.agg #[.int .i64 a0_g.w, .int .i64 a0_g.h, .slice p0 a0_g.tiles.length c0], .int .i64 ((a1_t % a0_g.w) + (gi x5 (2 * v11))), .int .i64 ((a1_t / a0_g.w) + (gi x5 (2 * v11 + 1)))]) ent134 rfl fun w s => ground_On_walk a0_g ((a1_t % a0_g.w) + (gi x5 (2 * v11))) ((a1_t / a0_g.w) + (gi x5 (2 * v11 + 1))) w ((Rd.base h0) w s) hx20) (RS.nil (hK11 _ _ ?_))
   refine T.cond rfl (fun hc21 => ?_) (fun hc21 => ?_)
   ·have H := ifT hc21 H
    refine cq [(2, _), (4, _), (5, _), (6, _), (7, _), (8, _), (17, _), (18, _)] ?_
    refine T.region (rM rfl (rM rfl (rp (Pu.indexAr ar198 rfl rfl (by omega)) (rq (Qt.ldB 2 ty3 rfl rfl rfl) ?_))))
    obtain ⟨g22, H⟩ := gdE H
    refine rp (Pu.addS rfl rfl g22) (rp (Pu.fieldAddr fd36_0 rfl) (rq (Qt.ldB 0 ty3 rfl rfl rfl) (rM rfl (rp (Pu.indexAr ar198 rfl rfl (by omega)) (rq (Qt.ldB 2 ty3 rfl rfl rfl) ?_)))))
    obtain ⟨g23, H⟩ := gdE H
    refine rp (Pu.addS rfl rfl g23) ?_
    obtain ⟨g24, H⟩ := gdE H
    refine rp (Pu.mulS rfl rfl g24) ?_
    obtain ⟨g25, H⟩ := gdE H
    refine rp (Pu.addS rfl rfl g25) ?_
    obtain ⟨g26, H⟩ := gdE H
    refine rp (Pu.indexAr ar124 rfl rfl (by have := g26; omega)) (RS.solid (Sd.stAr 1 ty3 rfl rfl rfl rfl (by have := g26; omega)) rfl rfl fun _ => RS.nil (hK8 _ _ (cq [(2, _), (4, _), (5, _), (6, _), (17, _), (18, _)] ?_)))
    refine T.region ?_
    obtain ⟨g27, H⟩ := gdE H
    refine rp (Pu.addS rfl rfl g27) (rM rfl (RS.nil (hL6 _ _ ((v11 + 1), (si (si v12 v11 (-1)) v11 (((a1_t % a0_g.w) + (gi x5 (2 * v11))) + (a0_g.w * ((a1_t / a0_g.w) + (gi x5 (2 * v11 + 1))))))) () H ⟨rfl, rfl, rfl, rfl, rfl, trivial⟩ ⟨rfl, trivial⟩ (fun w s => s.pick [0, 1] (by decide) rfl))))
   ·have H := ifB hc21 H
    refine T.skip (hK8 _ _ (cq [(2, _), (4, _), (5, _), (6, _), (17, _), (18, _)] ?_))
    refine T.region ?_
    obtain ⟨g28, H⟩ := gdE H
    refine rp (Pu.addS rfl rfl g28) (rM rfl (RS.nil (hL6 _ _ ((v11 + 1), (si v12 v11 (-1))) () H ⟨rfl, rfl, rfl, rfl, rfl, trivial⟩ ⟨rfl, trivial⟩ (fun w s => s.pick [0, 1] (by decide) rfl))))
  ·have H := ifF hc14 H
   obtain rfl := hd6 _ H
   refine T.xt (hJ6 _ _ v12 () HX6 ⟨rfl, trivial⟩ trivial (fun w s => s))
theorem clear_pass_walk {w0 : World} {F : Ch} (a0_g : Grd) (a1_k : List Int) (a2_t : Int) (a3_ways : List Pr2) {q0 : Option Nat × Nat} {m0 : Nat} (hm : m0 = a1_k.length) {v0 v1 : Value} (h0 : Rd (Sat w0 [F]) a0_g.tiles [v0]) (h1 : Rd (Sat w0 [F]) a3_ways [v1]) {r : List Int} (H : clear_pass a0_g a1_k a2_t a3_ways = some r) (w : World) (s : Sat w0 [row nilH 3 (rowV q0 m0) a1_k, F] w) : Calls Tryz.prog 128 #[.agg #[.int .i64 a0_g.w, .int .i64 a0_g.h, v0], rowV q0 m0, .int .i64 a2_t, v1] w fun e w' => e = .returned (.tuple #[]) ∧ Sat w0 [row nilH 3 (rowV q0 m0) r, F] w' := by
 have hm0 := R_max (h0 w (s.pick [1] (by decide) rfl))
 obtain ⟨p0, c0, rfl⟩ := R_form (h0 w (s.pick [1] (by decide) rfl))
 subst hm
 have hm1 := R_max (h1 w (s.pick [1] (by decide) rfl))
 obtain ⟨p1, c1, rfl⟩ := R_form (h1 w (s.pick [1] (by decide) rfl))
 unfold clear_pass at H
 refine T.enter (args := [_, _, _, _]) (S := Sat w0 [row nilH 3 (rowV q0 a1_k.length) a1_k, F]) Tryz.func128 rfl rfl (s) ?_
 refine T.seq fun K1 hK1 => T.region (RS.solid (Sd.box (cs := [_, _, _]) rfl rfl) rfl rfl fun b1 => RS.nil (hK1 _ _ ?_))
 refine T.seq fun K2 hK2 => ?_
 refine T.drawn (fun _ => True) [(0, .pu), (1, .pu), (2, .rd), (3, .pu), (4, .pu), (5, .pu), (6, .rd), (7, .pu), (8, .pu), (9, .pu)] mixed (ClE.sat _ _) (by kernel_rfl) ?_
 refine dp rfl (Pu.move rfl) (dp rfl (Pu.fieldAddr fd36_0 rfl) (dq rfl (Qt.ldB 2 ty3 rfl rfl rfl) ?_))
 obtain ⟨g2, H⟩ := gdE H
 refine dp rfl (Pu.remN rfl rfl (and3 g2)) (dp rfl (Pu.move rfl) (dp rfl (Pu.fieldAddr fd36_0 rfl) (dq rfl (Qt.ldB 2 ty3 rfl rfl rfl) ?_)))
 obtain ⟨g3, H⟩ := gdE H
 refine dp rfl (Pu.quoN rfl rfl g3) (dp rfl (Pu.assign rfl) (dp rfl (Pu.assign rfl) (RD.nil (hK2 _ _ (cq [(1, _), (2, _), (3, _), (4, _), (8, _), (9, _)] ?_)))))
 refine T.seq fun K3 hK3 => T.region (rM rfl (rp (Pu.lenSl sl199 rfl) (rM rfl (RS.nil (hK3 _ _ ?_)))))
 refine T.joinE (σ := List Int) (γ := Unit) H (fun s => s) [] trivial (fun v5 _ => []) (fun v5 _ => Sat w0 [row nilH 3 (rowV q0 a1_k.length) v5, F, blk b1 [.int .i64 a0_g.w, .int .i64 a0_g.h, .slice p0 a0_g.tiles.length c0] 36]) ?_ ?_
 ·rintro v5 ⟨⟩ H
  try dsimp only [Ex.then] at H
  refine Cont.conseq (fr' := []) ?_ trivial (fun _ s => s)
  obtain rfl := sj H
  refine id (Cont.end0 rfl fun w' s => ?_)
  exact ⟨rfl, s.pick [0, 1] (by decide) rfl⟩
 ·intro z4 hz4 HX4 hJ4
  refine T.block ?_
  refine T.loopA (γ := Unit) hz4 [(1, _), (2, _), (4, _), (8, _), (9, _), (21, _), (22, _)] (fun (v6, l7) _ => [(23, .int .i64 v6)]) (fun (v6, l7) _ => Sat w0 [row nilH 3 (rowV q0 a1_k.length) l7, F, blk b1 [.int .i64 a0_g.w, .int .i64 a0_g.h, .slice p0 a0_g.tiles.length c0] 36]) () ⟨rfl, rfl, rfl, rfl, rfl, rfl, rfl, trivial⟩ ⟨rfl, trivial⟩ (fun w s => s) ?_
  rintro ⟨v6, l7⟩ ⟨⟩ y8 H hd4 KL4 hL4
  try dsimp only [Ex.then] at H
  refine cq [(23, _), (1, _), (2, _), (4, _), (8, _), (9, _), (21, _), (22, _)] ?_
  refine T.seq fun K4 hK4 => T.region (rp (Pu.bin rfl rfl rfl) (RS.nil (hK4 _ _ ?_)))
  refine T.seq fun K5 hK5 => ?_
  refine T.condP rfl (fun hc9 => ?_) (fun hc9 => ?_)
  ·have H := ifT hc9 H
   refine T.skip (hK5 _ _ ?_)
   refine T.seq fun K6 hK6 => T.block (T.seq fun K7 hK7 => T.region ?_)
   obtain ⟨g10, H⟩ := gdE H
   refine RS.know (p := ∃ bl ol, p1 = some ⟨bl, ol, none⟩) (fun w s => R_ptr (h1 w (s.pick [1] (by decide) rfl)) (ne_of_pos (pos_of g10))) ?_
   rintro ⟨bl11, ol12, rfl⟩
   refine rp (Pu.indexSl sl199 rfl rfl g10) (rq (Qt.ldW (α := Pr2) (cs := [_, _]) (Rd.ofFrame 1 rfl h1) ty198 rfl rfl g10 rfl (by rintro _ _ rfl; rfl)) (RS.solid (Sd.alloc zr198 rfl) rfl rfl fun b13 => RS.solid (Sd.stB (cs' := [_, _]) 3 ty198 rfl rfl rfl rfl rfl rfl rfl rfl) rfl rfl fun _ => RS.nil (hK7 _ _ (cq [(1, _), (2, _), (4, _), (8, _), (9, _), (11, _), (21, _), (22, _), (23, _)] ?_))))
   refine T.seq fun K8 hK8 => T.region (rA rfl (RS.nil (hK8 _ _ ?_)))
   refine T.seq fun K9 hK9 => T.seq fun K10 hK10 => T.region (rq (Qt.ldBA (us := [_, _, _]) 2 ty36 rfl rfl rfl rfl) (rM rfl (rp (Pu.indexAr ar198 rfl rfl (by omega)) (rq (Qt.ldB 3 ty3 rfl rfl rfl) ?_))))
   obtain ⟨g14, H⟩ := gdE H
   refine rp (Pu.addS rfl rfl g14) (rM rfl (rp (Pu.indexAr ar198 rfl rfl (by omega)) (rq (Qt.ldB 3 ty3 rfl rfl rfl) ?_)))
   obtain ⟨g15, H⟩ := gdE H
   refine rp (Pu.addS rfl rfl g15) ?_
   obtain ⟨x16, hx16, H⟩ := bindE H
   refine rq (Qt.call (vs := [.agg #[.int .i64 a0_g.w, .int .i64 a0_g.h, .slice p0 a0_g.tiles.length c0], .int .i64 ((a2_t % a0_g.w) + ((gi a3_ways v6).a)), .int .i64 ((a2_t / a0_g.w) + ((gi a3_ways v6).b))]) ent134 rfl fun w s => ground_On_walk a0_g ((a2_t % a0_g.w) + ((gi a3_ways v6).a)) ((a2_t / a0_g.w) + ((gi a3_ways v6).b)) w ((Rd.ofFrame 1 rfl h0) w s) hx16) (RS.nil (hK10 _ _ ?_))
   refine T.joinE (σ := Int) (γ := Unit) H (fun s => s) [(1, _), (2, _), (4, _), (8, _), (9, _), (21, _), (22, _), (23, _)] ⟨rfl, rfl, rfl, rfl, rfl, rfl, rfl, rfl, trivial⟩ (fun v18 _ => [(12, .int .i64 v18)]) (fun v18 _ => Sat w0 [row nilH 3 (rowV q0 a1_k.length) l7, F, blk b1 [.int .i64 a0_g.w, .int .i64 a0_g.h, .slice p0 a0_g.tiles.length c0] 36, blk b13 [.int .i64 ((gi a3_ways v6).a), .int .i64 ((gi a3_ways v6).b)] 198]) ?_ ?_
   ·rintro v18 ⟨⟩ H
    try dsimp only [Ex.then] at H
    refine Cont.conseq (fr' := [(12, _), (1, _), (2, _), (4, _), (8, _), (9, _), (21, _), (22, _), (23, _)]) ?_ ⟨rfl, rfl, rfl, rfl, rfl, rfl, rfl, rfl, rfl, trivial⟩ (fun _ s => s)
    refine id (hK9 _ _ ?_)
    refine T.region (rM rfl (rM rfl (rM rfl (rM rfl ?_))))
    obtain ⟨g19, H⟩ := gdE H
    refine RS.know (fun w s => (s.row_fits (q := q0) (m := a1_k.length) (k := 0) rfl)) fun hf20 => ?_
    refine RS.know (p := ∃ g cap, q0 = (some g, cap)) (fun w s => (s.row_some (k := 0) rfl (pos_of (idx_of hf20.1 g19)))) ?_
    rintro ⟨gg21, cc22, rfl⟩
    refine rp (Pu.indexSl sl23 rfl rfl g19) (rq (Qt.ld0 (α := Int) (Rd.ofRowN 0 rfl) ty3 rfl rfl (idx_of hf20.1 g19) (by rintro _ _ rfl; rfl)) (rM rfl ?_))
    obtain ⟨g23, H⟩ := gdE H
    refine rp (Pu.addS rfl rfl g23) (rp (Pu.minI rfl rfl) ?_)
    obtain ⟨g24, H⟩ := gdE H
    refine RS.know (fun w s => (s.row_fits (q := (some gg21, cc22)) (m := a1_k.length) (k := 0) rfl)) fun hf25 => ?_
    refine rp (Pu.indexSl sl23 rfl rfl g24) (RS.solid (Sd.st0 (α := Int) 0 (min (gi l7 a2_t) (v18 + 1)) rfl ty3 rfl rfl rfl (idx_of hf25.1 g24) rfl rfl (by decide) rfl (by rintro _ _ rfl; rfl)) rfl rfl fun _ => RS.nil (hK6 _ _ (cq [(1, _), (2, _), (4, _), (8, _), (9, _), (21, _), (22, _), (23, _)] ?_)))
    refine T.region ?_
    obtain ⟨g26, H⟩ := gdE H
    refine rp (Pu.addS rfl rfl g26) (rM rfl (RS.nil (hL4 _ _ ((v6 + 1), (si l7 a2_t (min (gi l7 a2_t) (v18 + 1)))) () H ⟨rfl, rfl, rfl, rfl, rfl, rfl, rfl, trivial⟩ ⟨rfl, trivial⟩ (fun w s => s.pick [0, 1, 2] (by decide) rfl))))
   ·intro z17 H HX17 hJ17
    refine T.cond rfl (fun hc27 => ?_) (fun hc27 => ?_)
    ·have H := ifT hc27 H
     refine cq [(1, _), (2, _), (4, _), (8, _), (9, _), (11, _), (21, _), (22, _), (23, _)] ?_
     refine T.region (rM rfl (rM rfl (rp (Pu.indexAr ar198 rfl rfl (by omega)) (rq (Qt.ldB 3 ty3 rfl rfl rfl) ?_))))
     obtain ⟨g28, H⟩ := gdE H
     refine rp (Pu.addS rfl rfl g28) (rp (Pu.fieldAddr fd36_0 rfl) (rq (Qt.ldB 2 ty3 rfl rfl rfl) (rM rfl (rp (Pu.indexAr ar198 rfl rfl (by omega)) (rq (Qt.ldB 3 ty3 rfl rfl rfl) ?_)))))
     obtain ⟨g29, H⟩ := gdE H
     refine rp (Pu.addS rfl rfl g29) ?_
     obtain ⟨g30, H⟩ := gdE H
     refine rp (Pu.mulS rfl rfl g30) ?_
     obtain ⟨g31, H⟩ := gdE H
     refine rp (Pu.addS rfl rfl g31) ?_
     obtain ⟨g32, H⟩ := gdE H
     refine RS.know (fun w s => (s.row_fits (q := q0) (m := a1_k.length) (k := 0) rfl)) fun hf33 => ?_
     refine RS.know (p := ∃ g cap, q0 = (some g, cap)) (fun w s => (s.row_some (k := 0) rfl (pos_of (idx_of hf33.1 g32)))) ?_
     rintro ⟨gg34, cc35, rfl⟩
     refine rp (Pu.indexSl sl23 rfl rfl g32) (rq (Qt.ld0 (α := Int) (Rd.ofRowN 0 rfl) ty3 rfl rfl (idx_of hf33.1 g32) (by rintro _ _ rfl; rfl)) (rA rfl ?_))
     obtain rfl := sj H
     refine RS.nil (hJ17 _ _ (gi l7 (((a2_t % a0_g.w) + ((gi a3_ways v6).a)) + (a0_g.w * ((a2_t / a0_g.w) + ((gi a3_ways v6).b))))) () HX17 ⟨rfl, rfl, rfl, rfl, rfl, rfl, rfl, rfl, trivial⟩ ⟨rfl, trivial⟩ (fun w s => s))
    ·have H := ifB hc27 H
     obtain rfl := sj H
     refine T.skip (hJ17 _ _ 0 () HX17 ⟨rfl, rfl, rfl, rfl, rfl, rfl, rfl, rfl, trivial⟩ ⟨rfl, trivial⟩ (fun w s => s))
  ·have H := ifF hc9 H
   obtain rfl := hd4 _ H
   refine T.xt (hJ4 _ _ l7 () HX4 trivial trivial (fun w s => s))
theorem clear_Tiles_walk (a0_g : Grd) (a1_l : List Bld) (a2_class : Int) (w : World) {v0 v1 : Value} (h0 : R (hpOf w) a0_g.tiles [v0]) (h1 : R (hpOf w) a1_l [v1]) {r : List Bool} (H : clear_Tiles a0_g a1_l a2_class = some r) : Calls Tryz.prog 127 #[.agg #[.int .i64 a0_g.w, .int .i64 a0_g.h, v0], v1, .int .i64 a2_class] w fun e w' => ∃ q1 : (Option Nat × Nat), e = .returned (rowV q1 r.length) ∧ Sat w [row nilH 4 (rowV q1 r.length) r] w' := by
 have hm0 := R_max h0
 obtain ⟨p0, c0, rfl⟩ := R_form h0
 have hm1 := R_max h1
 obtain ⟨p1, c1, rfl⟩ := R_form h1
 unfold clear_Tiles at H
 refine T.enter (args := [_, _, _]) (S := Sat w []) Tryz.func127 rfl rfl (Sat.start w) ?_
 refine T.seq fun K1 hK1 => T.region (RS.solid (Sd.box (cs := [_, _, _]) rfl rfl) rfl rfl fun b1 => rA rfl (RS.nil (hK1 _ _ ?_)))
 refine T.seq fun K2 hK2 => T.region (rq (Qt.ldBA (us := [_, _, _]) 0 ty36 rfl rfl rfl rfl) (rM rfl ?_))
 obtain ⟨x2, hx2, H⟩ := bindE H
 refine RS.solid (Sd.callN (vs := [.agg #[.int .i64 a0_g.w, .int .i64 a0_g.h, .slice p0 a0_g.tiles.length c0], .slice p1 a1_l.length c1]) ent154 rfl (fun w s => build_Cover_walk a0_g a1_l w ((Rd.base h0) w s) ((Rd.base h1) w s) hx2)) rfl rfl fun q3 => rA rfl (RS.nil (hK2 _ _ (cq [(2, _), (3, _), (7, _)] ?_)))
 refine T.seq fun K3 hK3 => T.seq fun K4 hK4 => T.region (rM rfl (rp (Pu.lenSl sl59 rfl) (rM rfl (RS.nil (hK4 _ _ ?_)))))
 refine T.joinE (σ := List Bool) (γ := Unit) H (fun s => s) [(7, _)] ⟨rfl, trivial⟩ (fun v5 _ => []) (fun v5 _ => Sat w [blk b1 [.int .i64 a0_g.w, .int .i64 a0_g.h, .slice p0 a0_g.tiles.length c0] 36, row nilH 4 (rowV q3 x2.length) v5]) ?_ ?_
 ·rintro v5 ⟨⟩ H
  try dsimp only [Ex.then] at H
  refine Cont.conseq (fr' := [(7, _)]) ?_ ⟨rfl, trivial⟩ (fun _ s => s)
  refine id (hK3 _ _ ?_)
  refine T.seq fun K5 hK5 => T.region (rM rfl (rA rfl (RS.nil (hK5 _ _ ?_))))
  obtain rfl := sj H
  refine T.rt (Cont.ret1 rfl rfl fun w' s => ?_)
  exact ⟨q3, (by simp only [(s.row_fits (q := q3) (m := x2.length) (k := 1) rfl).1]; try rfl), (Sat.relen (q := q3) (m := x2.length) 1 s rfl).pick [1] (by decide) rfl⟩
 ·intro z4 hz4 HX4 hJ4
  refine T.block ?_
  refine T.loopA (γ := Unit) hz4 [(2, _), (3, _), (7, _), (13, _), (14, _)] (fun (v6, l7) _ => [(15, .int .i64 v6)]) (fun (v6, l7) _ => Sat w [blk b1 [.int .i64 a0_g.w, .int .i64 a0_g.h, .slice p0 a0_g.tiles.length c0] 36, row nilH 4 (rowV q3 x2.length) l7]) () ⟨rfl, rfl, rfl, rfl, rfl, trivial⟩ ⟨rfl, trivial⟩ (fun w s => s) ?_
  rintro ⟨v6, l7⟩ ⟨⟩ y8 H hd4 KL4 hL4
  try dsimp only [Ex.then] at H
  refine cq [(15, _), (2, _), (3, _), (7, _), (13, _), (14, _)] ?_
  refine T.seq fun K6 hK6 => T.region (rp (Pu.bin rfl rfl rfl) (RS.nil (hK6 _ _ ?_)))
  refine T.seq fun K7 hK7 => ?_
  refine T.condP rfl (fun hc9 => ?_) (fun hc9 => ?_)
  ·have H := ifT hc9 H
   refine T.skip (hK7 _ _ ?_)
   refine T.seq fun K8 hK8 => T.block (T.seq fun K9 hK9 => T.region (rM rfl ?_))
   obtain ⟨g10, H⟩ := gdE H
   refine RS.know (fun w s => (s.row_fits (q := q3) (m := x2.length) (k := 1) rfl)) fun hf11 => ?_
   refine RS.know (p := ∃ g cap, q3 = (some g, cap)) (fun w s => (s.row_some (k := 1) rfl (pos_of (idx_of hf11.1 g10)))) ?_
   rintro ⟨gg12, cc13, rfl⟩
   refine rp (Pu.indexSl sl59 rfl rfl g10) (rq (Qt.ld0 (α := Bool) (Rd.ofRowN 1 rfl) ty4 rfl rfl (idx_of hf11.1 g10) (by rintro _ _ rfl; rfl)) (rA rfl (rA rfl (RS.nil (hK9 _ _ (cq [(2, _), (3, _), (7, _), (8, _), (9, _), (13, _), (14, _), (15, _)] ?_))))))
   refine T.region (rM rfl (rM rfl (rM rfl (rp (Pu.not rfl) (rM rfl ?_)))))
   refine RS.joinB H 9 33 (fun b16 => .bool b16) [(2, _), (3, _), (7, _), (13, _), (14, _), (15, _), (20, _), (21, _)] ⟨rfl, rfl, rfl, rfl, rfl, rfl, rfl, rfl, trivial⟩ ?_ ?_
   ·intro b16 H
    obtain ⟨g17, H⟩ := gdE H
    refine RS.know (fun w s => (s.row_fits (q := (some gg12, cc13)) (m := x2.length) (k := 1) rfl)) fun hf18 => ?_
    refine rp (Pu.indexSl sl59 rfl rfl g17) (RS.solid (Sd.st0 (α := Bool) 1 b16 rfl ty4 rfl rfl rfl (idx_of hf18.1 g17) rfl rfl (by decide) rfl (by rintro _ _ rfl; rfl)) rfl rfl fun _ => RS.nil (hK8 _ _ (cq [(2, _), (3, _), (7, _), (13, _), (14, _), (15, _)] ?_)))
    refine T.region ?_
    obtain ⟨g19, H⟩ := gdE H
    refine rp (Pu.addS rfl rfl g19) (rM rfl (RS.nil (hL4 _ _ ((v6 + 1), (si l7 v6 b16)) () H ⟨rfl, rfl, rfl, rfl, rfl, trivial⟩ ⟨rfl, trivial⟩ (fun w s => s))))
   ·intro z20 H hJ15
    refine RS.split 24 rfl (fun hc14 => ?_) (fun hc14 => ?_)
    ·have H := ifT hc14 H
     refine rM rfl (rp (Pu.fieldAddr fd36_2 rfl) (rq (Qt.ldB 0 ty34 rfl rfl rfl) (rM rfl ?_)))
     obtain ⟨g21, H⟩ := gdE H
     obtain ⟨bl22, ol23, rfl⟩ := R_ptr h0 (ne_of_pos (pos_of g21))
     refine rp (Pu.indexSl sl34 rfl rfl g21) (rq (Qt.ld0 (α := UInt8) (Rd.base h0) ty5 rfl rfl g21 (by rintro _ _ rfl; rfl)) ?_)
     obtain ⟨x24, hx24, H⟩ := bindE H
     refine rq (Qt.call (vs := [.int .i64 a2_class, .int .u8 ((gi a0_g.tiles v6).toNat : Int)]) ent135 rfl fun w s => kind_Price_walk a2_class ((gi a0_g.tiles v6).toNat : Int) w  hx24) (rp (Pu.bin rfl rfl rfl) (rp (Pu.pickT rfl rfl) ?_))
     obtain rfl := sj H
     exact hJ15 _ _ ⟨rfl, rfl, rfl, rfl, rfl, rfl, rfl, rfl, rfl, trivial⟩ (fun w s => s)
    ·have H := ifB hc14 H
     refine ro (ro (ro (ro (ro (ro (ro (ro (rp (Pu.pickF rfl rfl) ?_))))))))
     obtain rfl := sj H
     exact hJ15 _ _ ⟨rfl, rfl, rfl, rfl, rfl, rfl, rfl, rfl, rfl, trivial⟩ (fun w s => s)
  ·have H := ifF hc9 H
   obtain rfl := hd4 _ H
   refine T.xt (hJ4 _ _ l7 () HX4 ⟨rfl, trivial⟩ trivial (fun w s => s))
theorem clear_Room_walk (a0_g : Grd) (a1_l : List Bld) (a2_class : Int) (w : World) {v0 v1 : Value} (h0 : R (hpOf w) a0_g.tiles [v0]) (h1 : R (hpOf w) a1_l [v1]) {r : List Int} (H : clear_Room a0_g a1_l a2_class = some r) : Calls Tryz.prog 95 #[.agg #[.int .i64 a0_g.w, .int .i64 a0_g.h, v0], v1, .int .i64 a2_class] w fun e w' => ∃ q1 : (Option Nat × Nat), e = .returned (rowV q1 r.length) ∧ Sat w [row nilH 3 (rowV q1 r.length) r] w' := by
 have hm0 := R_max h0
 obtain ⟨p0, c0, rfl⟩ := R_form h0
 have hm1 := R_max h1
 obtain ⟨p1, c1, rfl⟩ := R_form h1
 unfold clear_Room at H
 refine T.enter (args := [_, _, _]) (S := Sat w []) Tryz.func95 rfl rfl (Sat.start w) ?_
 refine T.seq fun K1 hK1 => T.region (RS.solid (Sd.box (cs := [_, _, _]) rfl rfl) rfl rfl fun b1 => rA rfl (RS.nil (hK1 _ _ ?_)))
 refine T.seq fun K2 hK2 => T.region (rp (Pu.fieldAddr fd36_2 rfl) (rq (Qt.ldB 0 ty34 rfl rfl rfl) (rp (Pu.lenSl sl34 rfl) ?_)))
 obtain ⟨g3, H⟩ := gdE H
 refine RS.solid (Sd.make (α := Int) (B := nilH) 0 sl23 zr3 rfl (by decide) rfl rfl (by omega) (by omega) (by omega)) rfl rfl fun b2 => rA rfl (RS.nil (hK2 _ _ (cq [(1, _), (2, _), (3, _), (7, _)] ?_)))
 refine T.seq fun K3 hK3 => T.seq fun K4 hK4 => T.region (rq (Qt.ldBA (us := [_, _, _]) 0 ty36 rfl rfl rfl rfl) (rM rfl (rM rfl ?_)))
 obtain ⟨x4, hx4, H⟩ := bindE H
 refine RS.solid (Sd.callN (vs := [.agg #[.int .i64 a0_g.w, .int .i64 a0_g.h, .slice p0 a0_g.tiles.length c0], .slice p1 a1_l.length c1, .int .i64 a2_class]) ent127 rfl (fun w s => clear_Tiles_walk a0_g a1_l a2_class w ((Rd.base h0) w s) ((Rd.base h1) w s) hx4)) rfl rfl fun q5 => rp (Pu.lenSl sl59 rfl) (rM rfl (RS.nil (hK4 _ _ (cq [(3, _), (7, _), (19, _), (20, _), (21, _)] ?_))))
 refine T.joinE (σ := List Int) (γ := Unit) H (fun s => s) [(3, _), (7, _)] ⟨rfl, rfl, trivial⟩ (fun v7 _ => []) (fun v7 _ => Sat w [blk b1 [.int .i64 a0_g.w, .int .i64 a0_g.h, .slice p0 a0_g.tiles.length c0] 36, row nilH 3 (rowV (some b2, (a0_g.tiles.length : Int).toNat) ((a0_g.tiles.length : Int).toNat)) v7, row nilH 4 (rowV q5 x4.length) x4]) ?_ ?_
 ·rintro v7 ⟨⟩ H
  try dsimp only [Ex.then] at H
  refine Cont.conseq (fr' := [(3, _), (7, _)]) ?_ ⟨rfl, rfl, trivial⟩ (fun _ s => s)
  refine id (hK3 _ _ ?_)
  refine T.seq fun K5 hK5 => T.seq fun K6 hK6 => T.region (rM rfl (rp (Pu.lenSl sl23 rfl) (rM rfl (RS.nil (hK6 _ _ ?_)))))
  refine T.joinE (σ := List Int) (γ := Unit) H (fun s => s) [(3, _), (7, _)] ⟨rfl, rfl, trivial⟩ (fun v9 _ => []) (fun v9 _ => Sat w [blk b1 [.int .i64 a0_g.w, .int .i64 a0_g.h, .slice p0 a0_g.tiles.length c0] 36, row nilH 3 (rowV (some b2, (a0_g.tiles.length : Int).toNat) ((a0_g.tiles.length : Int).toNat)) v9, row nilH 4 (rowV q5 x4.length) x4]) ?_ ?_
  ·rintro v9 ⟨⟩ H
   try dsimp only [Ex.then] at H
   refine Cont.conseq (fr' := [(3, _), (7, _)]) ?_ ⟨rfl, rfl, trivial⟩ (fun _ s => s)
   refine id (hK5 _ _ ?_)
   refine T.seq fun K7 hK7 => T.seq fun K8 hK8 => T.region (rM rfl (rp (Pu.lenSl sl23 rfl) ?_))
   obtain ⟨g10, H⟩ := gdE H
   refine rp (Pu.subS rfl rfl g10) (rA rfl (RS.nil (hK8 _ _ (cq [(3, _), (7, _), (11, _)] ?_))))
   refine T.joinE (σ := List Int) (γ := Unit) H (fun s => s) [(7, _)] ⟨rfl, trivial⟩ (fun v12 _ => []) (fun v12 _ => Sat w [blk b1 [.int .i64 a0_g.w, .int .i64 a0_g.h, .slice p0 a0_g.tiles.length c0] 36, row nilH 3 (rowV (some b2, (a0_g.tiles.length : Int).toNat) ((a0_g.tiles.length : Int).toNat)) v12, row nilH 4 (rowV q5 x4.length) x4]) ?_ ?_
   ·rintro v12 ⟨⟩ H
    try dsimp only [Ex.then] at H
    refine Cont.conseq (fr' := [(7, _)]) ?_ ⟨rfl, trivial⟩ (fun _ s => s)
    refine id (hK7 _ _ ?_)
    refine T.seq fun K9 hK9 => T.region (rM rfl (rA rfl (RS.nil (hK9 _ _ ?_))))
    obtain rfl := sj H
    refine T.rt (Cont.ret1 rfl rfl fun w' s => ?_)
    exact ⟨(some b2, (a0_g.tiles.length : Int).toNat), (by simp only [(s.row_fits (q := (some b2, (a0_g.tiles.length : Int).toNat)) (m := (a0_g.tiles.length : Int).toNat) (k := 1) rfl).1]; try rfl), (Sat.relen (q := (some b2, (a0_g.tiles.length : Int).toNat)) (m := (a0_g.tiles.length : Int).toNat) 1 s rfl).pick [1] (by decide) rfl⟩
   ·intro z11 hz11 HX11 hJ11
    refine T.block ?_
    refine T.loopA (γ := Unit) hz11 [(3, _), (7, _)] (fun (v13, l14) _ => [(11, .int .i64 v13)]) (fun (v13, l14) _ => Sat w [blk b1 [.int .i64 a0_g.w, .int .i64 a0_g.h, .slice p0 a0_g.tiles.length c0] 36, row nilH 3 (rowV (some b2, (a0_g.tiles.length : Int).toNat) ((a0_g.tiles.length : Int).toNat)) l14, row nilH 4 (rowV q5 x4.length) x4]) () ⟨rfl, rfl, trivial⟩ ⟨rfl, trivial⟩ (fun w s => s) ?_
    rintro ⟨v13, l14⟩ ⟨⟩ y15 H hd11 KL11 hL11
    try dsimp only [Ex.then] at H
    refine cq [(11, _), (3, _), (7, _)] ?_
    refine T.seq fun K10 hK10 => T.seq fun K11 hK11 => T.region (rM rfl (rp (Pu.bin rfl rfl rfl) (RS.nil (hK11 _ _ ?_))))
    refine T.condP rfl (fun hc16 => ?_) (fun hc16 => ?_)
    ·have H := ifT hc16 H
     refine T.skip (hK10 _ _ ?_)
     refine T.seq fun K12 hK12 => T.block (T.region (rq (Qt.ldBA (us := [_, _, _]) 0 ty36 rfl rfl rfl rfl) (rM rfl (rM rfl (rp (Pu.buildAr (cells := [_, _]) at198 rfl rfl) (rp (Pu.buildAr (cells := [_, _]) at198 rfl rfl) (rp (Pu.buildAr (cells := [_, _]) at198 rfl rfl) (rp (Pu.buildAr (cells := [_, _]) at198 rfl rfl) (RS.solid (Sd.litS (cs := [_, _, _, _, _, _, _, _]) sl199 zr198 rfl rfl rfl rfl rfl) rfl rfl fun b17 => ?_)))))))))
     refine RS.weakS (fun w s => s.litRow (α := Pr2) (n := 4) 3 [(⟨1, 0⟩ : Pr2), (⟨1, 1⟩ : Pr2), (⟨0, 1⟩ : Pr2), (⟨(-1), 1⟩ : Pr2)] rfl (by decide) rfl ⟨[_, _], _, rfl, rfl, ⟨[_, _], _, rfl, rfl, ⟨[_, _], _, rfl, rfl, ⟨[_, _], _, rfl, rfl, rfl⟩⟩⟩⟩) ?_
     obtain ⟨x18, hx18, H⟩ := bindE H
     refine RS.know (fun w s => (s.row_fits (q := (some b2, (a0_g.tiles.length : Int).toNat)) (m := (a0_g.tiles.length : Int).toNat) (k := 1) rfl)) fun hf19 => ?_
     refine RS.solid (Sd.callF0 (vs := [.agg #[.int .i64 a0_g.w, .int .i64 a0_g.h, .slice p0 a0_g.tiles.length c0], rowV (some b2, (a0_g.tiles.length : Int).toNat) ((a0_g.tiles.length : Int).toNat), .int .i64 v13, rowV (some b17, 4) 4]) (C' := row nilH 3 (rowV (some b2, (a0_g.tiles.length : Int).toNat) ((a0_g.tiles.length : Int).toNat)) x18) (v := .tuple #[]) 1 ent128 rfl rfl (fun w s => clear_pass_walk a0_g l14 v13 [(⟨1, 0⟩ : Pr2), (⟨1, 1⟩ : Pr2), (⟨0, 1⟩ : Pr2), (⟨(-1), 1⟩ : Pr2)] hf19.1 (Rd.base h0) (Rd.rest 3 rfl (by decide) (Rd.ofRowN 0 rfl)) hx18 w s)) rfl rfl fun _ => RS.nil (hK12 _ _ (cq [(3, _), (7, _), (11, _)] ?_))
     refine T.region (rM rfl ?_)
     obtain ⟨g20, H⟩ := gdE H
     refine rp (Pu.subS rfl rfl g20) (rA rfl (RS.nil (hL11 _ _ ((v13 - 1), x18) () H ⟨rfl, rfl, trivial⟩ ⟨rfl, trivial⟩ (fun w s => s.pick [0, 1, 2] (by decide) rfl))))
    ·have H := ifF hc16 H
     obtain rfl := hd11 _ H
     refine T.xt (hJ11 _ _ l14 () HX11 ⟨rfl, trivial⟩ trivial (fun w s => s))
  ·intro z8 hz8 HX8 hJ8
   refine T.block ?_
   refine T.loopA (γ := Unit) hz8 [(3, _), (7, _), (32, _)] (fun (v21, l22) _ => [(33, .int .i64 v21)]) (fun (v21, l22) _ => Sat w [blk b1 [.int .i64 a0_g.w, .int .i64 a0_g.h, .slice p0 a0_g.tiles.length c0] 36, row nilH 3 (rowV (some b2, (a0_g.tiles.length : Int).toNat) ((a0_g.tiles.length : Int).toNat)) l22, row nilH 4 (rowV q5 x4.length) x4]) () ⟨rfl, rfl, rfl, trivial⟩ ⟨rfl, trivial⟩ (fun w s => s) ?_
   rintro ⟨v21, l22⟩ ⟨⟩ y23 H hd8 KL8 hL8
   try dsimp only [Ex.then] at H
   refine cq [(33, _), (3, _), (7, _), (32, _)] ?_
   refine T.seq fun K13 hK13 => T.region (rp (Pu.bin rfl rfl rfl) (RS.nil (hK13 _ _ ?_)))
   refine T.seq fun K14 hK14 => ?_
   refine T.condP rfl (fun hc24 => ?_) (fun hc24 => ?_)
   ·have H := ifT hc24 H
    refine T.skip (hK14 _ _ ?_)
    refine T.seq fun K15 hK15 => T.block (T.seq fun K16 hK16 => T.region (rM rfl (rA rfl (RS.nil (hK16 _ _ ?_)))))
    refine T.region (rq (Qt.ldBA (us := [_, _, _]) 0 ty36 rfl rfl rfl rfl) (rM rfl (rM rfl (rp (Pu.buildAr (cells := [_, _]) at198 rfl rfl) (rp (Pu.buildAr (cells := [_, _]) at198 rfl rfl) (rp (Pu.buildAr (cells := [_, _]) at198 rfl rfl) (rp (Pu.buildAr (cells := [_, _]) at198 rfl rfl) (RS.solid (Sd.litS (cs := [_, _, _, _, _, _, _, _]) sl199 zr198 rfl rfl rfl rfl rfl) rfl rfl fun b25 => ?_))))))))
    refine RS.weakS (fun w s => s.litRow (α := Pr2) (n := 4) 3 [(⟨(-1), 0⟩ : Pr2), (⟨(-1), (-1)⟩ : Pr2), (⟨0, (-1)⟩ : Pr2), (⟨1, (-1)⟩ : Pr2)] rfl (by decide) rfl ⟨[_, _], _, rfl, rfl, ⟨[_, _], _, rfl, rfl, ⟨[_, _], _, rfl, rfl, ⟨[_, _], _, rfl, rfl, rfl⟩⟩⟩⟩) ?_
    obtain ⟨x26, hx26, H⟩ := bindE H
    refine RS.know (fun w s => (s.row_fits (q := (some b2, (a0_g.tiles.length : Int).toNat)) (m := (a0_g.tiles.length : Int).toNat) (k := 1) rfl)) fun hf27 => ?_
    refine RS.solid (Sd.callF0 (vs := [.agg #[.int .i64 a0_g.w, .int .i64 a0_g.h, .slice p0 a0_g.tiles.length c0], rowV (some b2, (a0_g.tiles.length : Int).toNat) ((a0_g.tiles.length : Int).toNat), .int .i64 v21, rowV (some b25, 4) 4]) (C' := row nilH 3 (rowV (some b2, (a0_g.tiles.length : Int).toNat) ((a0_g.tiles.length : Int).toNat)) x26) (v := .tuple #[]) 1 ent128 rfl rfl (fun w s => clear_pass_walk a0_g l22 v21 [(⟨(-1), 0⟩ : Pr2), (⟨(-1), (-1)⟩ : Pr2), (⟨0, (-1)⟩ : Pr2), (⟨1, (-1)⟩ : Pr2)] hf27.1 (Rd.base h0) (Rd.rest 3 rfl (by decide) (Rd.ofRowN 0 rfl)) hx26 w s)) rfl rfl fun _ => RS.nil (hK15 _ _ (cq [(3, _), (7, _), (32, _), (33, _)] ?_))
    refine T.region ?_
    obtain ⟨g28, H⟩ := gdE H
    refine rp (Pu.addS rfl rfl g28) (rM rfl (RS.nil (hL8 _ _ ((v21 + 1), x26) () H ⟨rfl, rfl, rfl, trivial⟩ ⟨rfl, trivial⟩ (fun w s => s.pick [0, 1, 2] (by decide) rfl))))
   ·have H := ifF hc24 H
    obtain rfl := hd8 _ H
    refine T.xt (hJ8 _ _ l22 () HX8 ⟨rfl, rfl, trivial⟩ trivial (fun w s => s))
 ·intro z6 hz6 HX6 hJ6
  refine T.block ?_
  refine T.loopA (γ := Unit) hz6 [(3, _), (7, _), (19, _), (20, _)] (fun (v29, l30) _ => [(21, .int .i64 v29)]) (fun (v29, l30) _ => Sat w [blk b1 [.int .i64 a0_g.w, .int .i64 a0_g.h, .slice p0 a0_g.tiles.length c0] 36, row nilH 3 (rowV (some b2, (a0_g.tiles.length : Int).toNat) ((a0_g.tiles.length : Int).toNat)) l30, row nilH 4 (rowV q5 x4.length) x4]) () ⟨rfl, rfl, rfl, rfl, trivial⟩ ⟨rfl, trivial⟩ (fun w s => s) ?_
  rintro ⟨v29, l30⟩ ⟨⟩ y31 H hd6 KL6 hL6
  try dsimp only [Ex.then] at H
  refine cq [(21, _), (3, _), (7, _), (19, _), (20, _)] ?_
  refine T.seq fun K17 hK17 => T.region (rp (Pu.bin rfl rfl rfl) (RS.nil (hK17 _ _ ?_)))
  refine T.seq fun K18 hK18 => ?_
  refine T.condP rfl (fun hc32 => ?_) (fun hc32 => ?_)
  ·have H := ifT hc32 H
   refine T.skip (hK18 _ _ ?_)
   refine T.seq fun K19 hK19 => T.block (T.seq fun K20 hK20 => T.region (rM rfl ?_))
   obtain ⟨g33, H⟩ := gdE H
   refine RS.know (p := ∃ g cap, q5 = (some g, cap)) (fun w s => (s.row_some (k := 2) rfl (pos_of g33))) ?_
   rintro ⟨gg34, cc35, rfl⟩
   refine rp (Pu.indexSl sl59 rfl rfl g33) (rq (Qt.ld0 (α := Bool) (Rd.ofRowN 2 rfl) ty4 rfl rfl g33 (by rintro _ _ rfl; rfl)) (rA rfl (rA rfl (RS.nil (hK20 _ _ (cq [(3, _), (7, _), (8, _), (9, _), (19, _), (20, _), (21, _)] ?_))))))
   refine T.seq fun K21 hK21 => T.region (rM rfl (RS.nil (hK21 _ _ ?_)))
   refine T.cond rfl (fun hc36 => ?_) (fun hc36 => ?_)
   ·have H := ifT hc36 H
    refine T.region (rM rfl (rM rfl ?_))
    obtain ⟨g37, H⟩ := gdE H
    refine RS.know (fun w s => (s.row_fits (q := (some b2, (a0_g.tiles.length : Int).toNat)) (m := (a0_g.tiles.length : Int).toNat) (k := 1) rfl)) fun hf38 => ?_
    refine rp (Pu.indexSl sl23 rfl rfl g37) (RS.solid (Sd.st0 (α := Int) 1 128 rfl ty3 rfl rfl rfl (idx_of hf38.1 g37) rfl rfl (by decide) rfl (by rintro _ _ rfl; rfl)) rfl rfl fun _ => RS.nil (hK19 _ _ (cq [(3, _), (7, _), (19, _), (20, _), (21, _)] ?_)))
    refine T.region ?_
    obtain ⟨g39, H⟩ := gdE H
    refine rp (Pu.addS rfl rfl g39) (rM rfl (RS.nil (hL6 _ _ ((v29 + 1), (si l30 v29 128)) () H ⟨rfl, rfl, rfl, rfl, trivial⟩ ⟨rfl, trivial⟩ (fun w s => s))))
   ·have H := ifB hc36 H
    refine T.skip (hK19 _ _ (cq [(3, _), (7, _), (19, _), (20, _), (21, _)] ?_))
    refine T.region ?_
    obtain ⟨g40, H⟩ := gdE H
    refine rp (Pu.addS rfl rfl g40) (rM rfl (RS.nil (hL6 _ _ ((v29 + 1), l30) () H ⟨rfl, rfl, rfl, rfl, trivial⟩ ⟨rfl, trivial⟩ (fun w s => s))))
  ·have H := ifF hc32 H
   obtain rfl := hd6 _ H
   refine T.xt (hJ6 _ _ l30 () HX6 ⟨rfl, rfl, trivial⟩ trivial (fun w s => s))
theorem clear_May_walk (a0_g : Grd) (a1_l : List Bld) (a2_class : Int) (w : World) {v0 v1 : Value} (h0 : R (hpOf w) a0_g.tiles [v0]) (h1 : R (hpOf w) a1_l [v1]) {r : Bool} (H : clear_May a0_g a1_l a2_class = some r) : Calls Tryz.prog 75 #[.agg #[.int .i64 a0_g.w, .int .i64 a0_g.h, v0], v1, .int .i64 a2_class] w fun e w' => e = .returned (.bool r) ∧ Ext w w' := by
 have hm0 := R_max h0
 obtain ⟨p0, c0, rfl⟩ := R_form h0
 have hm1 := R_max h1
 obtain ⟨p1, c1, rfl⟩ := R_form h1
 unfold clear_May at H
 refine T.enter (args := [_, _, _]) (S := Sat w []) Tryz.func75 rfl rfl (Sat.start w) ?_
 refine T.seq fun K1 hK1 => T.region (RS.solid (Sd.box (cs := [_, _, _]) rfl rfl) rfl rfl fun b1 => rA rfl (RS.nil (hK1 _ _ ?_)))
 refine T.seq fun K2 hK2 => T.region (rq (Qt.ldBA (us := [_, _, _]) 0 ty36 rfl rfl rfl rfl) ?_)
 obtain ⟨x2, hx2, H⟩ := bindE H
 refine rq (Qt.call (vs := [.agg #[.int .i64 a0_g.w, .int .i64 a0_g.h, .slice p0 a0_g.tiles.length c0]]) ent108 rfl fun w s => ground_May_walk a0_g w ((Rd.base h0) w s) hx2) (rM rfl ?_)
 refine RS.joinB H 4 13 (fun b5 => .bool b5) [(2, _), (6, _)] ⟨rfl, rfl, trivial⟩ ?_ ?_
 ·intro b5 H
  refine rM rfl ?_
  refine RS.joinB H 3 17 (fun b8 => .bool b8) [(6, _)] ⟨rfl, trivial⟩ ?_ ?_
  ·intro b8 H
   refine rA rfl (RS.nil (hK2 _ _ ?_))
   obtain rfl := sj H
   refine T.rt (Cont.ret1 rfl rfl fun w' s => ?_)
   exact ⟨rfl, s.ext⟩
  ·intro z9 H hJ7
   refine RS.split 14 rfl (fun hc6 => ?_) (fun hc6 => ?_)
   ·have H := ifT hc6 H
    refine rM rfl ?_
    obtain ⟨x10, hx10, H⟩ := bindE H
    refine rq (Qt.call (vs := [.int .i64 a2_class]) ent110 rfl fun w s => kind_Class_walk a2_class w  hx10) (rp (Pu.pickT rfl rfl) ?_)
    obtain rfl := sj H
    exact hJ7 _ _ ⟨rfl, rfl, trivial⟩ (fun w s => s)
   ·have H := ifB hc6 H
    refine ro (ro (rp (Pu.pickF rfl rfl) ?_))
    obtain rfl := sj H
    exact hJ7 _ _ ⟨rfl, rfl, trivial⟩ (fun w s => s)
 ·intro z11 H hJ4
  refine RS.split 9 rfl (fun hc3 => ?_) (fun hc3 => ?_)
  ·have H := ifT hc3 H
   refine rq (Qt.ldBA (us := [_, _, _]) 0 ty36 rfl rfl rfl rfl) (rM rfl ?_)
   obtain ⟨x12, hx12, H⟩ := bindE H
   refine rq (Qt.call (vs := [.agg #[.int .i64 a0_g.w, .int .i64 a0_g.h, .slice p0 a0_g.tiles.length c0], .slice p1 a1_l.length c1]) ent109 rfl fun w s => build_May_walk a0_g a1_l w ((Rd.base h0) w s) ((Rd.base h1) w s) hx12) (rp (Pu.pickT rfl rfl) ?_)
   obtain rfl := sj H
   exact hJ4 _ _ ⟨rfl, rfl, rfl, trivial⟩ (fun w s => s)
  ·have H := ifB hc3 H
   refine ro (ro (ro (rp (Pu.pickF rfl rfl) ?_)))
   obtain rfl := sj H
   exact hJ4 _ _ ⟨rfl, rfl, rfl, trivial⟩ (fun w s => s)
theorem throngref5_Class_walk (a0_c : Int) (w : World) {r : Bool} (H : throngref5_Class a0_c = some r) : Calls Tryz.prog 37 #[.int .i64 a0_c] w fun e w' => e = .returned (.bool r) ∧ Ext w w' := by
 unfold throngref5_Class at H
 refine T.enter (args := [_]) (S := Sat w []) Tryz.func37 rfl rfl (Sat.start w) ?_
 refine T.seq fun K1 hK1 => T.region (rA rfl (RS.nil (hK1 _ _ ?_)))
 refine T.seq fun K2 hK2 => T.region (rM rfl (rp (Pu.bin rfl rfl rfl) (rM rfl ?_)))
 refine RS.joinV 3 8 (.bool (decide ((0 ≤ a0_c) ∧ (a0_c ≤ 2)))) [(2, _)] ⟨rfl, trivial⟩ ?_ ?_
 ·refine rA rfl (RS.nil (hK2 _ _ ?_))
  obtain rfl := sj H
  refine T.rt (Cont.ret1 rfl rfl fun w' s => ?_)
  exact ⟨rfl, s.ext⟩
 ·intro hJ2
  refine RS.splitP 5 rfl (fun hc1 => ?_) (fun hc1 => ?_)
  ·refine rM rfl (rp (Pu.bin rfl rfl rfl) (rp (Pu.pickT rfl rfl) ?_))
   exact hJ2 _ _ ⟨dAndT hc1, rfl, trivial⟩ (fun w s => s)
  ·refine ro (ro (rp (Pu.pickF rfl rfl) ?_))
   exact hJ2 _ _ ⟨dAndF hc1, rfl, trivial⟩ (fun w s => s)
end Go.Proofs.YthdbofgcckjopaaGreat
