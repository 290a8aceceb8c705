/-
  Walks of what the statements of the buildings call.
-/
import Derived.Test.YthdbofgcckjopaaGreatRows
import Derived.Test.YthdbofgcckjopaaGreatW3
import Derived.Test.YthdbofgcckjopaaGreatBH0
set_option linter.unusedVariables false
set_option linter.unusedSimpArgs false
set_option maxRecDepth 20000
set_option maxHeartbeats 4000000
namespace Go.Proofs.YthdbofgcckjopaaGreat
open Go.Vg
open Enc (R)
theorem ent106 : Ent Tryz.prog 106 := ⟨_, _, Tryz.func106, by kernel_rfl, rfl⟩
theorem ent139 : Ent Tryz.prog 139 := ⟨_, _, Tryz.func139, by kernel_rfl, rfl⟩
theorem ent140 : Ent Tryz.prog 140 := ⟨_, _, Tryz.func140, by kernel_rfl, rfl⟩
theorem ent141 : Ent Tryz.prog 141 := ⟨_, _, Tryz.func141, by kernel_rfl, rfl⟩
theorem ent142 : Ent Tryz.prog 142 := ⟨_, _, Tryz.func142, by kernel_rfl, rfl⟩
theorem ent143 : Ent Tryz.prog 143 := ⟨_, _, Tryz.func143, by kernel_rfl, rfl⟩
theorem ent167 : Ent Tryz.prog 167 := ⟨_, _, Tryz.func167, by kernel_rfl, rfl⟩
theorem ent168 : Ent Tryz.prog 168 := ⟨_, _, Tryz.func168, by kernel_rfl, rfl⟩
theorem ent67 : Ent Tryz.prog 67 := ⟨_, _, Tryz.func67, by kernel_rfl, rfl⟩
theorem ent68 : Ent Tryz.prog 68 := ⟨_, _, Tryz.func68, by kernel_rfl, rfl⟩
theorem ent69 : Ent Tryz.prog 69 := ⟨_, _, Tryz.func69, by kernel_rfl, rfl⟩
theorem ent70 : Ent Tryz.prog 70 := ⟨_, _, Tryz.func70, by kernel_rfl, rfl⟩
theorem ent71 : Ent Tryz.prog 71 := ⟨_, _, Tryz.func71, by kernel_rfl, rfl⟩
theorem ent72 : Ent Tryz.prog 72 := ⟨_, _, Tryz.func72, by kernel_rfl, rfl⟩
theorem fd120_0 : fdOff Tryz.prog 120 0 = some 0 := by kernel_rfl
theorem fd120_1 : fdOff Tryz.prog 120 1 = some 1 := by kernel_rfl
theorem fd120_2 : fdOff Tryz.prog 120 2 = some 2 := by kernel_rfl
theorem fd120_3 : fdOff Tryz.prog 120 3 = some 3 := by kernel_rfl
theorem fd120_4 : fdOff Tryz.prog 120 4 = some 4 := by kernel_rfl
theorem fd120_5 : fdOff Tryz.prog 120 5 = some 5 := by kernel_rfl
theorem sl59 : slTy Tryz.prog 59 = some (4, 1, 1) := by kernel_rfl
theorem ty120 : tySz Tryz.prog 120 = some (6, true) := by kernel_rfl
theorem ty4 : tySz Tryz.prog 4 = some (1, false) := by kernel_rfl
theorem zr4 : zeroOf Tryz.prog 4 = some (.bool false) := by kernel_rfl
theorem build_form_walk (a0_b : Bld) (w : World) {r : Bool} (H : build_form a0_b = some r) : Calls Tryz.prog 140 #[.agg #[.int .i64 a0_b.id, .int .i64 a0_b.owner, .int .i64 a0_b.x, .int .i64 a0_b.y, .int .i64 a0_b.w, .int .i64 a0_b.h]] w fun e w' => e = .returned (.bool r) ∧ Ext w w' := by
 unfold build_form at H
 refine T.enter (args := [_]) (S := Sat w []) Tryz.func140 rfl rfl (Sat.start w) ?_
 refine T.seq fun K1 hK1 => T.region (RS.solid (Sd.box (cs := [_, _, _, _, _, _]) rfl rfl) rfl rfl fun b1 => rA rfl (RS.nil (hK1 _ _ ?_)))
 refine T.seq fun K2 hK2 => T.region (rp (Pu.fieldAddr fd120_0 rfl) (rq (Qt.ldB 0 ty3 rfl rfl rfl) (rp (Pu.bin rfl rfl rfl) (rM rfl ?_))))
 refine RS.joinV 4 10 (.bool (decide ((1 ≤ a0_b.id) ∧ (a0_b.id ≤ 1099511627776)))) [(1, _), (2, _)] ⟨rfl, rfl, trivial⟩ ?_ ?_
 ·refine rM rfl ?_
  refine RS.joinV 4 15 (.bool (decide (((1 ≤ a0_b.id) ∧ (a0_b.id ≤ 1099511627776)) ∧ (1 ≤ a0_b.owner)))) [(1, _), (2, _)] ⟨rfl, rfl, trivial⟩ ?_ ?_
  ·refine rM rfl ?_
   refine RS.joinV 4 20 (.bool (decide ((((1 ≤ a0_b.id) ∧ (a0_b.id ≤ 1099511627776)) ∧ (1 ≤ a0_b.owner)) ∧ (a0_b.owner ≤ 8)))) [(1, _), (2, _)] ⟨rfl, rfl, trivial⟩ ?_ ?_
   ·refine rM rfl ?_
    refine RS.joinV 4 25 (.bool (decide (((((1 ≤ a0_b.id) ∧ (a0_b.id ≤ 1099511627776)) ∧ (1 ≤ a0_b.owner)) ∧ (a0_b.owner ≤ 8)) ∧ (1 ≤ a0_b.w)))) [(1, _), (2, _)] ⟨rfl, rfl, trivial⟩ ?_ ?_
    ·refine rM rfl ?_
     refine RS.joinV 4 30 (.bool (decide ((((((1 ≤ a0_b.id) ∧ (a0_b.id ≤ 1099511627776)) ∧ (1 ≤ a0_b.owner)) ∧ (a0_b.owner ≤ 8)) ∧ (1 ≤ a0_b.w)) ∧ (a0_b.w ≤ 4)))) [(1, _), (2, _)] ⟨rfl, rfl, trivial⟩ ?_ ?_
     ·refine rM rfl ?_
      refine RS.joinV 4 35 (.bool (decide (((((((1 ≤ a0_b.id) ∧ (a0_b.id ≤ 1099511627776)) ∧ (1 ≤ a0_b.owner)) ∧ (a0_b.owner ≤ 8)) ∧ (1 ≤ a0_b.w)) ∧ (a0_b.w ≤ 4)) ∧ (1 ≤ a0_b.h)))) [(1, _), (2, _)] ⟨rfl, rfl, trivial⟩ ?_ ?_
      ·refine rM rfl ?_
       refine RS.joinV 4 40 (.bool (decide ((((((((1 ≤ a0_b.id) ∧ (a0_b.id ≤ 1099511627776)) ∧ (1 ≤ a0_b.owner)) ∧ (a0_b.owner ≤ 8)) ∧ (1 ≤ a0_b.w)) ∧ (a0_b.w ≤ 4)) ∧ (1 ≤ a0_b.h)) ∧ (a0_b.h ≤ 4)))) [(2, _)] ⟨rfl, trivial⟩ ?_ ?_
       ·refine rA rfl (RS.nil (hK2 _ _ ?_))
        obtain rfl := sj H
        refine T.rt (Cont.ret1 rfl rfl fun w' s => ?_)
        exact ⟨rfl, s.ext⟩
       ·intro hJ15
        refine RS.splitP 36 rfl (fun hc14 => ?_) (fun hc14 => ?_)
        ·refine rp (Pu.fieldAddr fd120_5 rfl) (rq (Qt.ldB 0 ty3 rfl rfl rfl) (rp (Pu.bin rfl rfl rfl) (rp (Pu.pickT rfl rfl) ?_)))
         exact hJ15 _ _ ⟨dAndT hc14, rfl, trivial⟩ (fun w s => s)
        ·refine ro (ro (ro (rp (Pu.pickF rfl rfl) ?_)))
         exact hJ15 _ _ ⟨dAndF hc14, rfl, trivial⟩ (fun w s => s)
      ·intro hJ13
       refine RS.splitP 31 rfl (fun hc12 => ?_) (fun hc12 => ?_)
       ·refine rp (Pu.fieldAddr fd120_5 rfl) (rq (Qt.ldB 0 ty3 rfl rfl rfl) (rp (Pu.bin rfl rfl rfl) (rp (Pu.pickT rfl rfl) ?_)))
        exact hJ13 _ _ ⟨dAndT hc12, rfl, rfl, trivial⟩ (fun w s => s)
       ·refine ro (ro (ro (rp (Pu.pickF rfl rfl) ?_)))
        exact hJ13 _ _ ⟨dAndF hc12, rfl, rfl, trivial⟩ (fun w s => s)
     ·intro hJ11
      refine RS.splitP 26 rfl (fun hc10 => ?_) (fun hc10 => ?_)
      ·refine rp (Pu.fieldAddr fd120_4 rfl) (rq (Qt.ldB 0 ty3 rfl rfl rfl) (rp (Pu.bin rfl rfl rfl) (rp (Pu.pickT rfl rfl) ?_)))
       exact hJ11 _ _ ⟨dAndT hc10, rfl, rfl, trivial⟩ (fun w s => s)
      ·refine ro (ro (ro (rp (Pu.pickF rfl rfl) ?_)))
       exact hJ11 _ _ ⟨dAndF hc10, rfl, rfl, trivial⟩ (fun w s => s)
    ·intro hJ9
     refine RS.splitP 21 rfl (fun hc8 => ?_) (fun hc8 => ?_)
     ·refine rp (Pu.fieldAddr fd120_4 rfl) (rq (Qt.ldB 0 ty3 rfl rfl rfl) (rp (Pu.bin rfl rfl rfl) (rp (Pu.pickT rfl rfl) ?_)))
      exact hJ9 _ _ ⟨dAndT hc8, rfl, rfl, trivial⟩ (fun w s => s)
     ·refine ro (ro (ro (rp (Pu.pickF rfl rfl) ?_)))
      exact hJ9 _ _ ⟨dAndF hc8, rfl, rfl, trivial⟩ (fun w s => s)
   ·intro hJ7
    refine RS.splitP 16 rfl (fun hc6 => ?_) (fun hc6 => ?_)
    ·refine rp (Pu.fieldAddr fd120_1 rfl) (rq (Qt.ldB 0 ty3 rfl rfl rfl) (rp (Pu.bin rfl rfl rfl) (rp (Pu.pickT rfl rfl) ?_)))
     exact hJ7 _ _ ⟨dAndT hc6, rfl, rfl, trivial⟩ (fun w s => s)
    ·refine ro (ro (ro (rp (Pu.pickF rfl rfl) ?_)))
     exact hJ7 _ _ ⟨dAndF hc6, rfl, rfl, trivial⟩ (fun w s => s)
  ·intro hJ5
   refine RS.splitP 11 rfl (fun hc4 => ?_) (fun hc4 => ?_)
   ·refine rp (Pu.fieldAddr fd120_1 rfl) (rq (Qt.ldB 0 ty3 rfl rfl rfl) (rp (Pu.bin rfl rfl rfl) (rp (Pu.pickT rfl rfl) ?_)))
    exact hJ5 _ _ ⟨dAndT hc4, rfl, rfl, trivial⟩ (fun w s => s)
   ·refine ro (ro (ro (rp (Pu.pickF rfl rfl) ?_)))
    exact hJ5 _ _ ⟨dAndF hc4, rfl, rfl, trivial⟩ (fun w s => s)
 ·intro hJ3
  refine RS.splitP 6 rfl (fun hc2 => ?_) (fun hc2 => ?_)
  ·refine rp (Pu.fieldAddr fd120_0 rfl) (rq (Qt.ldB 0 ty3 rfl rfl rfl) (rp (Pu.bin rfl rfl rfl) (rp (Pu.pickT rfl rfl) ?_)))
   exact hJ3 _ _ ⟨dAndT hc2, rfl, rfl, trivial⟩ (fun w s => s)
  ·refine ro (ro (ro (rp (Pu.pickF rfl rfl) ?_)))
   exact hJ3 _ _ ⟨dAndF hc2, rfl, rfl, trivial⟩ (fun w s => s)
theorem build_on_walk (a0_g : Grd) (a1_b : Bld) (w : World) {v0 : Value} (h0 : R (hpOf w) a0_g.tiles [v0]) {r : Bool} (H : build_on a0_g a1_b = some r) : Calls Tryz.prog 141 #[.agg #[.int .i64 a0_g.w, .int .i64 a0_g.h, v0], .agg #[.int .i64 a1_b.id, .int .i64 a1_b.owner, .int .i64 a1_b.x, .int .i64 a1_b.y, .int .i64 a1_b.w, .int .i64 a1_b.h]] w fun e w' => e = .returned (.bool r) ∧ Ext w w' := by
 have hm0 := R_max h0
 obtain ⟨p0, c0, rfl⟩ := R_form h0
 unfold build_on at H
 refine T.enter (args := [_, _]) (S := Sat w []) Tryz.func141 rfl rfl (Sat.start w) ?_
 refine T.seq fun K1 hK1 => T.region (RS.solid (Sd.box (cs := [_, _, _]) rfl rfl) rfl rfl fun b1 => RS.solid (Sd.box (cs := [_, _, _, _, _, _]) rfl rfl) rfl rfl fun b2 => rA rfl (RS.nil (hK1 _ _ (cq [(2, _), (3, _)] ?_))))
 refine T.seq fun K2 hK2 => T.region (rp (Pu.fieldAddr fd120_2 rfl) (rq (Qt.ldB 1 ty3 rfl rfl rfl) (rp (Pu.bin rfl rfl rfl) (rM rfl ?_))))
 obtain ⟨g5, H⟩ := gdE H
 refine RS.joinV 9 17 (.bool (decide ((0 ≤ a1_b.x) ∧ (a1_b.x ≤ (a0_g.w - a1_b.w))))) [(2, _), (3, _)] ⟨rfl, rfl, trivial⟩ ?_ ?_
 ·refine rM rfl ?_
  refine RS.joinV 4 22 (.bool (decide (((0 ≤ a1_b.x) ∧ (a1_b.x ≤ (a0_g.w - a1_b.w))) ∧ (0 ≤ a1_b.y)))) [(2, _), (3, _)] ⟨rfl, rfl, trivial⟩ ?_ ?_
  ·refine rM rfl ?_
   obtain ⟨g10, H⟩ := gdE H
   refine RS.joinV 9 32 (.bool (decide ((((0 ≤ a1_b.x) ∧ (a1_b.x ≤ (a0_g.w - a1_b.w))) ∧ (0 ≤ a1_b.y)) ∧ (a1_b.y ≤ (a0_g.h - a1_b.h))))) [] trivial ?_ ?_
   ·refine rA rfl (RS.nil (hK2 _ _ ?_))
    obtain rfl := sj H
    refine T.rt (Cont.ret1 rfl rfl fun w' s => ?_)
    exact ⟨rfl, s.ext⟩
   ·intro hJ9
    refine RS.splitP 23 rfl (fun hc8 => ?_) (fun hc8 => ?_)
    ·refine rp (Pu.fieldAddr fd120_3 rfl) (rq (Qt.ldB 1 ty3 rfl rfl rfl) (rp (Pu.fieldAddr fd36_1 rfl) (rq (Qt.ldB 0 ty3 rfl rfl rfl) (rp (Pu.fieldAddr fd120_5 rfl) (rq (Qt.ldB 1 ty3 rfl rfl rfl) (rp (Pu.subS rfl rfl (g10 hc8)) (rp (Pu.bin rfl rfl rfl) (rp (Pu.pickT rfl rfl) ?_))))))))
     exact hJ9 _ _ ⟨dAndT hc8, trivial⟩ (fun w s => s)
    ·refine ro (ro (ro (ro (ro (ro (ro (ro (rp (Pu.pickF rfl rfl) ?_))))))))
     exact hJ9 _ _ ⟨dAndF hc8, trivial⟩ (fun w s => s)
  ·intro hJ7
   refine RS.splitP 18 rfl (fun hc6 => ?_) (fun hc6 => ?_)
   ·refine rp (Pu.fieldAddr fd120_3 rfl) (rq (Qt.ldB 1 ty3 rfl rfl rfl) (rp (Pu.bin rfl rfl rfl) (rp (Pu.pickT rfl rfl) ?_)))
    exact hJ7 _ _ ⟨dAndT hc6, rfl, rfl, trivial⟩ (fun w s => s)
   ·refine ro (ro (ro (rp (Pu.pickF rfl rfl) ?_)))
    exact hJ7 _ _ ⟨dAndF hc6, rfl, rfl, trivial⟩ (fun w s => s)
 ·intro hJ4
  refine RS.splitP 8 rfl (fun hc3 => ?_) (fun hc3 => ?_)
  ·refine rp (Pu.fieldAddr fd120_2 rfl) (rq (Qt.ldB 1 ty3 rfl rfl rfl) (rp (Pu.fieldAddr fd36_0 rfl) (rq (Qt.ldB 0 ty3 rfl rfl rfl) (rp (Pu.fieldAddr fd120_4 rfl) (rq (Qt.ldB 1 ty3 rfl rfl rfl) (rp (Pu.subS rfl rfl (g5 hc3)) (rp (Pu.bin rfl rfl rfl) (rp (Pu.pickT rfl rfl) ?_))))))))
   exact hJ4 _ _ ⟨dAndT hc3, rfl, rfl, trivial⟩ (fun w s => s)
  ·refine ro (ro (ro (ro (ro (ro (ro (ro (rp (Pu.pickF rfl rfl) ?_))))))))
   exact hJ4 _ _ ⟨dAndF hc3, rfl, rfl, trivial⟩ (fun w s => s)
theorem build_Tiles_walk (a0_g : Grd) (a1_b : Bld) (w : World) {v0 : Value} (h0 : R (hpOf w) a0_g.tiles [v0]) {r : List Int} (H : build_Tiles a0_g a1_b = some r) : Calls Tryz.prog 143 #[.agg #[.int .i64 a0_g.w, .int .i64 a0_g.h, v0], .agg #[.int .i64 a1_b.id, .int .i64 a1_b.owner, .int .i64 a1_b.x, .int .i64 a1_b.y, .int .i64 a1_b.w, .int .i64 a1_b.h]] w fun e w' => ∃ q1 : (Option Nat × Nat), e = .returned (rowV q1 r.length) ∧ Sat w [row nilH 3 (rowV q1 r.length) r] w' := by
 have hm0 := R_max h0
 obtain ⟨p0, c0, rfl⟩ := R_form h0
 unfold build_Tiles at H
 refine T.enter (args := [_, _]) (S := Sat w []) Tryz.func143 rfl rfl (Sat.start w) ?_
 refine T.seq fun K1 hK1 => T.region (RS.solid (Sd.box (cs := [_, _, _]) rfl rfl) rfl rfl fun b1 => RS.solid (Sd.box (cs := [_, _, _, _, _, _]) rfl rfl) rfl rfl fun b2 => rA rfl (RS.nil (hK1 _ _ ?_)))
 refine T.seq fun K2 hK2 => T.seq fun K3 hK3 => T.region (rp (Pu.fieldAddr fd120_5 rfl) (rq (Qt.ldB 1 ty3 rfl rfl rfl) (rM rfl (RS.nil (hK3 _ _ (cq [(2, _), (3, _), (4, _), (8, _), (9, _)] ?_))))))
 refine T.joinE (σ := List Int) (γ := (Option Nat × Nat)) H (fun s => s) [] trivial (fun v4 q5 => [(4, rowV q5 v4.length)]) (fun v4 q5 => Sat w [blk b1 [.int .i64 a0_g.w, .int .i64 a0_g.h, .slice p0 a0_g.tiles.length c0] 36, blk b2 [.int .i64 a1_b.id, .int .i64 a1_b.owner, .int .i64 a1_b.x, .int .i64 a1_b.y, .int .i64 a1_b.w, .int .i64 a1_b.h] 120, row nilH 3 (rowV q5 v4.length) v4]) ?_ ?_
 ·rintro v4 q5 H
  try dsimp only [Ex.then] at H
  refine Cont.conseq (fr' := [(4, _)]) ?_ ⟨rfl, trivial⟩ (fun _ s => s)
  refine id (hK2 _ _ ?_)
  refine T.seq fun K4 hK4 => T.region (rM rfl (rA rfl (RS.nil (hK4 _ _ ?_))))
  obtain rfl := sj H
  refine T.rt (Cont.ret1 rfl rfl fun w' s => ?_)
  exact ⟨q5, rfl, s.pick [2] (by decide) rfl⟩
 ·intro z3 hz3 HX3 hJ3
  refine T.block ?_
  refine T.loopA (γ := (Option Nat × Nat)) hz3 [(2, _), (3, _), (8, _)] (fun (l6, v8) q7 => [(4, rowV q7 l6.length), (9, .int .i64 v8)]) (fun (l6, v8) q7 => Sat w [blk b1 [.int .i64 a0_g.w, .int .i64 a0_g.h, .slice p0 a0_g.tiles.length c0] 36, blk b2 [.int .i64 a1_b.id, .int .i64 a1_b.owner, .int .i64 a1_b.x, .int .i64 a1_b.y, .int .i64 a1_b.w, .int .i64 a1_b.h] 120, row nilH 3 (rowV q7 l6.length) l6]) (none, 0) ⟨rfl, rfl, rfl, trivial⟩ ⟨rfl, rfl, trivial⟩ (fun w s => (s.nilRow (α := Int) 3).pick [0, 1, 2] (by decide) rfl) ?_
  rintro ⟨l6, v8⟩ q7 y9 H hd3 KL3 hL3
  try dsimp only [Ex.then] at H
  refine cq [(4, _), (9, _), (2, _), (3, _), (8, _)] ?_
  refine T.seq fun K5 hK5 => T.region (rp (Pu.bin rfl rfl rfl) (RS.nil (hK5 _ _ ?_)))
  refine T.seq fun K6 hK6 => ?_
  refine T.condP rfl (fun hc10 => ?_) (fun hc10 => ?_)
  ·have H := ifT hc10 H
   refine T.skip (hK6 _ _ ?_)
   refine T.seq fun K7 hK7 => T.block (T.seq fun K8 hK8 => T.region (rM rfl (rA rfl (RS.nil (hK8 _ _ ?_)))))
   refine T.seq fun K9 hK9 => T.region (rp (Pu.fieldAddr fd120_4 rfl) (rq (Qt.ldB 1 ty3 rfl rfl rfl) (rM rfl (RS.nil (hK9 _ _ (cq [(2, _), (3, _), (4, _), (5, _), (8, _), (9, _), (13, _), (14, _)] ?_))))))
   refine T.joinE (σ := List Int) (γ := (Option Nat × Nat)) H (fun s => s) [(2, _), (3, _), (8, _), (9, _)] ⟨rfl, rfl, rfl, rfl, trivial⟩ (fun v12 q13 => [(4, rowV q13 v12.length)]) (fun v12 q13 => Sat w [blk b1 [.int .i64 a0_g.w, .int .i64 a0_g.h, .slice p0 a0_g.tiles.length c0] 36, blk b2 [.int .i64 a1_b.id, .int .i64 a1_b.owner, .int .i64 a1_b.x, .int .i64 a1_b.y, .int .i64 a1_b.w, .int .i64 a1_b.h] 120, row nilH 3 (rowV q13 v12.length) v12]) ?_ ?_
   ·rintro v12 q13 H
    try dsimp only [Ex.then] at H
    refine Cont.conseq (fr' := [(4, _), (2, _), (3, _), (8, _), (9, _)]) ?_ ⟨rfl, rfl, rfl, rfl, rfl, trivial⟩ (fun _ s => s)
    refine id (hK7 _ _ ?_)
    refine T.region ?_
    obtain ⟨g14, H⟩ := gdE H
    refine rp (Pu.addS rfl rfl g14) (rM rfl (RS.nil (hL3 _ _ (v12, (v8 + 1)) q13 H ⟨rfl, rfl, rfl, trivial⟩ ⟨rfl, rfl, trivial⟩ (fun w s => s))))
   ·intro z11 hz11 HX11 hJ11
    refine T.block ?_
    refine T.loopA (γ := (Option Nat × Nat)) hz11 [(2, _), (3, _), (5, _), (8, _), (9, _), (13, _)] (fun (v15, l16) q17 => [(4, rowV q17 l16.length), (14, .int .i64 v15)]) (fun (v15, l16) q17 => Sat w [blk b1 [.int .i64 a0_g.w, .int .i64 a0_g.h, .slice p0 a0_g.tiles.length c0] 36, blk b2 [.int .i64 a1_b.id, .int .i64 a1_b.owner, .int .i64 a1_b.x, .int .i64 a1_b.y, .int .i64 a1_b.w, .int .i64 a1_b.h] 120, row nilH 3 (rowV q17 l16.length) l16]) q7 ⟨rfl, rfl, rfl, rfl, rfl, rfl, trivial⟩ ⟨rfl, rfl, trivial⟩ (fun w s => s) ?_
    rintro ⟨v15, l16⟩ q17 y18 H hd11 KL11 hL11
    try dsimp only [Ex.then] at H
    refine cq [(4, _), (14, _), (2, _), (3, _), (5, _), (8, _), (9, _), (13, _)] ?_
    refine T.seq fun K10 hK10 => T.region (rp (Pu.bin rfl rfl rfl) (RS.nil (hK10 _ _ ?_)))
    refine T.seq fun K11 hK11 => ?_
    refine T.condP rfl (fun hc19 => ?_) (fun hc19 => ?_)
    ·have H := ifT hc19 H
     refine T.skip (hK11 _ _ ?_)
     refine T.seq fun K12 hK12 => T.block (T.seq fun K13 hK13 => T.region (rM rfl (rA rfl (RS.nil (hK13 _ _ ?_)))))
     refine T.region (rM rfl (rp (Pu.fieldAddr fd120_2 rfl) (rq (Qt.ldB 1 ty3 rfl rfl rfl) (rM rfl ?_))))
     obtain ⟨g20, H⟩ := gdE H
     refine rp (Pu.addS rfl rfl g20) (rp (Pu.fieldAddr fd36_0 rfl) (rq (Qt.ldB 0 ty3 rfl rfl rfl) (rp (Pu.fieldAddr fd120_3 rfl) (rq (Qt.ldB 1 ty3 rfl rfl rfl) (rM rfl ?_)))))
     obtain ⟨g21, H⟩ := gdE H
     refine rp (Pu.addS rfl rfl g21) ?_
     obtain ⟨g22, H⟩ := gdE H
     refine rp (Pu.mulS rfl rfl g22) ?_
     obtain ⟨g23, H⟩ := gdE H
     refine rp (Pu.addS rfl rfl g23) (RS.solid (Sd.litS (cs := [_]) sl23 zr3 rfl rfl rfl rfl rfl) rfl rfl fun b24 => ?_)
     obtain ⟨g26, H⟩ := gdE H
     refine RS.solid (Sd.app1c (α := Int) 2 3 ((a1_b.x + v15) + (a0_g.w * (a1_b.y + v8))) rfl rfl (nilH_lt _) sl23 zr3 rfl rfl rfl rfl g26 (by decide)) rfl rfl fun q25 => rA rfl (RS.nil (hK12 _ _ (cq [(2, _), (3, _), (4, _), (5, _), (8, _), (9, _), (13, _), (14, _)] ?_)))
     refine T.region ?_
     obtain ⟨g27, H⟩ := gdE H
     refine rp (Pu.addS rfl rfl g27) (rM rfl (RS.nil (hL11 _ _ ((v15 + 1), (l16 ++ [((a1_b.x + v15) + (a0_g.w * (a1_b.y + v8)))])) q25 H ⟨rfl, rfl, rfl, rfl, rfl, rfl, trivial⟩ ⟨rfl, rfl, trivial⟩ (fun w s => s.pick [0, 1, 2] (by decide) rfl))))
    ·have H := ifF hc19 H
     obtain rfl := hd11 _ H
     refine T.xt (hJ11 _ _ l16 q17 HX11 ⟨rfl, rfl, rfl, rfl, trivial⟩ ⟨rfl, trivial⟩ (fun w s => s))
  ·have H := ifF hc10 H
   obtain rfl := hd3 _ H
   refine T.xt (hJ3 _ _ l6 q7 HX3 trivial ⟨rfl, trivial⟩ (fun w s => s))
theorem build_firm_1_walk (a0_t : Int) (c0 : Grd) (w : World) {v0 : Value} {p1g : Nat} (hb1 : blk p1g [.int .i64 c0.w, .int .i64 c0.h, v0] 36 (hpOf w)) (h0 : R (hpOf w) c0.tiles [v0]) {r : Bool} (H : build_firm_1 a0_t c0 = some r) : Calls Tryz.prog 168 #[.int .i64 a0_t, .pointer (some ⟨p1g, 0, none⟩)] w fun e w' => e = .returned (.bool r) ∧ Ext w w' := by
 have hm0 := R_max h0
 obtain ⟨p0, c0, rfl⟩ := R_form h0
 unfold build_firm_1 at H
 refine T.enter (args := [_, _]) (S := Sat w []) Tryz.func168 rfl rfl (Sat.start w) ?_
 refine T.seq fun K1 hK1 => T.region (rA rfl (RS.nil (hK1 _ _ ?_)))
 refine T.seq fun K2 hK2 => T.region (rp (Pu.fieldAddr fd36_2 rfl) (rq (Qt.ldX ty34 rfl hb1 (fun w s => s.ext) rfl) (rM rfl ?_)))
 obtain ⟨g1, H⟩ := gdE H
 obtain ⟨bl2, ol3, rfl⟩ := R_ptr h0 (ne_of_pos (pos_of g1))
 refine rp (Pu.indexSl sl34 rfl rfl g1) (rq (Qt.ld0 (α := UInt8) (Rd.base h0) ty5 rfl rfl g1 (by rintro _ _ rfl; rfl)) (rp (Pu.bin rfl rfl rfl) (rA rfl (RS.nil (hK2 _ _ (cq [(3, _)] ?_))))))
 obtain rfl := sj H
 refine T.rt (Cont.ret1 rfl rfl fun w' s => ?_)
 exact ⟨rfl, s.ext⟩
theorem build_firm_walk (a0_g : Grd) (a1_b : Bld) (w : World) {v0 : Value} (h0 : R (hpOf w) a0_g.tiles [v0]) {r : Bool} (H : build_firm a0_g a1_b = some r) : Calls Tryz.prog 142 #[.agg #[.int .i64 a0_g.w, .int .i64 a0_g.h, v0], .agg #[.int .i64 a1_b.id, .int .i64 a1_b.owner, .int .i64 a1_b.x, .int .i64 a1_b.y, .int .i64 a1_b.w, .int .i64 a1_b.h]] w fun e w' => e = .returned (.bool r) ∧ Ext w w' := by
 have hm0 := R_max h0
 obtain ⟨p0, c0, rfl⟩ := R_form h0
 unfold build_firm at H
 refine T.enter (args := [_, _]) (S := Sat w []) Tryz.func142 rfl rfl (Sat.start w) ?_
 refine T.seq fun K1 hK1 => T.region (RS.solid (Sd.box (cs := [_, _, _]) rfl rfl) rfl rfl fun b1 => RS.solid (Sd.box (cs := [_, _, _, _, _, _]) rfl rfl) rfl rfl fun b2 => rA rfl (RS.nil (hK1 _ _ (cq [(2, _), (3, _)] ?_))))
 refine T.seq fun K2 hK2 => T.region (rq (Qt.ldBA (us := [_, _, _]) 0 ty36 rfl rfl rfl rfl) (rq (Qt.ldBA (us := [_, _, _, _, _, _]) 1 ty120 rfl rfl rfl rfl) ?_))
 obtain ⟨x3, hx3, H⟩ := bindE H
 refine RS.solid (Sd.callN (vs := [.agg #[.int .i64 a0_g.w, .int .i64 a0_g.h, .slice p0 a0_g.tiles.length c0], .agg #[.int .i64 a1_b.id, .int .i64 a1_b.owner, .int .i64 a1_b.x, .int .i64 a1_b.y, .int .i64 a1_b.w, .int .i64 a1_b.h]]) ent143 rfl (fun w s => build_Tiles_walk a0_g a1_b w ((Rd.base h0) w s) hx3)) rfl rfl fun q4 => rp (Pu.makeFunc rfl) ?_
 obtain ⟨x5, hx5, H⟩ := bindE H
 refine rq (Qt.call (vs := [rowV q4 x3.length, .func (.func 168) #[] #[.pointer (some ⟨b1, 0, none⟩)]]) ent167 rfl fun w s => slices_ContainsFunc_walk x3 (fun y0 => build_firm_1 y0 a0_g) w ((Rd.ofRowN 2 rfl) w s) (⟨168, _, rfl, ent168, fun y0 r w' he hr => build_firm_1_walk y0 a0_g w' (blk_ext he (blk_of s (k := 0) rfl)) (Enc.mono he.hp ((Rd.base h0) w s)) hr⟩) hx5) (rp (Pu.not rfl) (rA rfl (RS.nil (hK2 _ _ (cq [(4, _)] ?_)))))
 obtain rfl := sj H
 refine T.rt (Cont.ret1 rfl rfl fun w' s => ?_)
 exact ⟨rfl, s.ext⟩
theorem build_rising_walk (a0_l : List Bld) (w : World) {v0 : Value} (h0 : R (hpOf w) a0_l [v0]) {r : Bool} (H : build_rising a0_l = some r) : Calls Tryz.prog 139 #[v0] w fun e w' => e = .returned (.bool r) ∧ Ext w w' := by
 have hm0 := R_max h0
 obtain ⟨p0, c0, rfl⟩ := R_form h0
 unfold build_rising at H
 refine T.enter (args := [_]) (S := Sat w []) Tryz.func139 rfl rfl (Sat.start w) ?_
 refine T.seq fun K1 hK1 => T.region (rA rfl (RS.nil (hK1 _ _ ?_)))
 refine T.seq fun K2 hK2 => T.seq fun K3 hK3 => T.region (rA rfl (RS.nil (hK3 _ _ ?_)))
 refine T.joinE (σ := Unit) (γ := Unit) H Ex.go [] trivial (fun _ _ => []) (fun _ _ => Sat w []) ?_ ?_
 ·rintro ⟨⟩ ⟨⟩ H
  try dsimp only [Ex.then] at H
  refine Cont.conseq (fr' := []) ?_ trivial (fun _ s => s)
  refine id (hK2 _ _ ?_)
  refine T.seq fun K4 hK4 => T.region (rA rfl (RS.nil (hK4 _ _ ?_)))
  obtain rfl := sj H
  refine T.rt (Cont.ret1 rfl rfl fun w' s => ?_)
  exact ⟨rfl, s.ext⟩
 ·intro z1 hz1 HX1 hJ1
  refine T.block ?_
  refine T.loopA (γ := Unit) hz1 [(0, _)] (fun v2 _ => [(3, .int .i64 v2)]) (fun v2 _ => Sat w []) () ⟨rfl, trivial⟩ ⟨rfl, trivial⟩ (fun w s => s) ?_
  rintro v2 ⟨⟩ y3 H hd1 KL1 hL1
  try dsimp only [Ex.then] at H
  refine cq [(3, _), (0, _)] ?_
  refine T.seq fun K5 hK5 => T.seq fun K6 hK6 => T.region (rM rfl (rM rfl (rp (Pu.lenSl sl37 rfl) (rp (Pu.bin rfl rfl rfl) (RS.nil (hK6 _ _ ?_))))))
  refine T.condP rfl (fun hc4 => ?_) (fun hc4 => ?_)
  ·have H := ifT hc4 H
   refine T.skip (hK5 _ _ (cq [(0, _), (3, _)] ?_))
   refine T.seq fun K7 hK7 => T.block (T.seq fun K8 hK8 => ?_)
   refine T.drawn (fun _ => True) [(0, .pu), (1, .pu), (2, .pu), (3, .pu), (4, .pu), (5, .rd), (6, .pu), (7, .pu), (8, .pu), (9, .pu), (10, .rd), (11, .pu)] mixed (ClE.sat _ _) (by kernel_rfl) ?_
   refine dp rfl (Pu.move rfl) (dp rfl (Pu.move rfl) ?_)
   obtain ⟨g5, H⟩ := gdE H
   refine dp rfl (Pu.subS rfl rfl g5) ?_
   obtain ⟨g6, H⟩ := gdE H
   obtain ⟨bl7, ol8, rfl⟩ := R_ptr h0 (ne_of_pos (pos_of g6))
   refine dp rfl (Pu.indexSl sl37 rfl rfl g6) (dp rfl (Pu.fieldAddr fd120_0 rfl) (dq rfl (Qt.ldF (α := Bld) (Rd.base h0) ty3 rfl rfl g6 (by rintro _ _ rfl; rfl)) (dp rfl (Pu.move rfl) (dp rfl (Pu.move rfl) ?_))))
   obtain ⟨g9, H⟩ := gdE H
   refine dp rfl (Pu.indexSl sl37 rfl rfl g9) (dp rfl (Pu.fieldAddr fd120_0 rfl) (dq rfl (Qt.ldF (α := Bld) (Rd.base h0) ty3 rfl rfl g9 (by rintro _ _ rfl; rfl)) (dp rfl (Pu.bin rfl rfl rfl) (RD.nil (hK8 _ _ ?_)))))
   refine T.condP rfl (fun hc10 => ?_) (fun hc10 => ?_)
   ·have H := ifT hc10 H
    refine cq [] ?_
    refine T.seq fun K9 hK9 => T.region (rA rfl (RS.nil (hK9 _ _ ?_)))
    obtain rfl := hd1 _ H
    have H := HX1
    obtain rfl := sj H
    refine T.rt (Cont.ret1 rfl rfl fun w' s => ?_)
    exact ⟨rfl, s.ext⟩
   ·have H := ifF hc10 H
    refine T.skip (hK7 _ _ (cq [(0, _), (3, _)] ?_))
    refine T.region (rM rfl ?_)
    obtain ⟨g11, H⟩ := gdE H
    refine rp (Pu.addS rfl rfl g11) (rA rfl (RS.nil (hL1 _ _ (v2 + 1) () H ⟨rfl, trivial⟩ ⟨rfl, trivial⟩ (fun w s => s))))
  ·have H := ifF hc4 H
   obtain rfl := hd1 _ H
   refine T.xt (hJ1 _ _ () () HX1 trivial trivial (fun w s => s))
theorem build_May_walk (a0_g : Grd) (a1_l : List Bld) (w : World) {v0 v1 : Value} (h0 : R (hpOf w) a0_g.tiles [v0]) (h1 : R (hpOf w) a1_l [v1]) {r : Bool} (H : build_May a0_g a1_l = some r) : Calls Tryz.prog 109 #[.agg #[.int .i64 a0_g.w, .int .i64 a0_g.h, v0], v1] w fun e w' => e = .returned (.bool r) ∧ Ext w w' := by
 have hm0 := R_max h0
 obtain ⟨p0, c0, rfl⟩ := R_form h0
 have hm1 := R_max h1
 obtain ⟨p1, c1, rfl⟩ := R_form h1
 unfold build_May at H
 refine T.enter (args := [_, _]) (S := Sat w []) Tryz.func109 rfl rfl (Sat.start w) ?_
 refine T.seq fun K1 hK1 => T.region (RS.solid (Sd.box (cs := [_, _, _]) rfl rfl) rfl rfl fun b1 => rA rfl (RS.nil (hK1 _ _ ?_)))
 refine T.seq fun K2 hK2 => T.seq fun K3 hK3 => T.region (rM rfl (rp (Pu.lenSl sl37 rfl) (rp (Pu.bin rfl rfl rfl) (rM rfl ?_))))
 refine RS.joinB H 4 17 (fun b4 => .bool b4) [(1, _), (2, _)] ⟨rfl, rfl, trivial⟩ ?_ ?_
 ·intro b4 H
  refine RS.nil (hK3 _ _ ?_)
  refine T.cond rfl (fun hc5 => ?_) (fun hc5 => ?_)
  ·have H := ifT hc5 H
   refine cq [] ?_
   refine T.seq fun K4 hK4 => T.region (rA rfl (RS.nil (hK4 _ _ ?_)))
   obtain rfl := sj H
   refine T.rt (Cont.ret1 rfl rfl fun w' s => ?_)
   exact ⟨rfl, s.ext⟩
  ·have H := ifB hc5 H
   refine T.skip (hK2 _ _ ?_)
   refine T.seq fun K5 hK5 => T.region (rp (Pu.fieldAddr fd36_2 rfl) (rq (Qt.ldB 0 ty34 rfl rfl rfl) (rp (Pu.lenSl sl34 rfl) ?_)))
   obtain ⟨g7, H⟩ := gdE H
   refine RS.solid (Sd.make (α := Bool) (B := nilH) false sl59 zr4 rfl (by decide) rfl rfl (by omega) (by omega) (by omega)) rfl rfl fun b6 => rA rfl (RS.nil (hK5 _ _ (cq [(1, _), (2, _), (5, _)] ?_)))
   refine T.seq fun K6 hK6 => T.seq fun K7 hK7 => T.region (rM rfl (rp (Pu.lenSl sl37 rfl) (rM rfl (RS.nil (hK7 _ _ ?_)))))
   refine T.joinE (σ := Unit) (γ := Unit) H Ex.go [] trivial (fun _ _ => []) (fun _ _ => Sat w [blk b1 [.int .i64 a0_g.w, .int .i64 a0_g.h, .slice p0 a0_g.tiles.length c0] 36, dead]) ?_ ?_
   ·rintro ⟨⟩ ⟨⟩ H
    try dsimp only [Ex.then] at H
    refine Cont.conseq (fr' := []) ?_ trivial (fun _ s => s)
    refine id (hK6 _ _ ?_)
    refine T.seq fun K8 hK8 => T.region (rA rfl (RS.nil (hK8 _ _ ?_)))
    obtain rfl := sj H
    refine T.rt (Cont.ret1 rfl rfl fun w' s => ?_)
    exact ⟨rfl, s.ext⟩
   ·intro z8 hz8 HX8 hJ8
    refine T.block ?_
    refine T.loopA (γ := Unit) hz8 [(2, _), (5, _), (22, _), (23, _)] (fun (v9, l10) _ => [(24, .int .i64 v9)]) (fun (v9, l10) _ => Sat w [blk b1 [.int .i64 a0_g.w, .int .i64 a0_g.h, .slice p0 a0_g.tiles.length c0] 36, row nilH 4 (rowV (some b6, (a0_g.tiles.length : Int).toNat) ((a0_g.tiles.length : Int).toNat)) l10]) () ⟨rfl, rfl, rfl, rfl, trivial⟩ ⟨rfl, trivial⟩ (fun w s => s) ?_
    rintro ⟨v9, l10⟩ ⟨⟩ y11 H hd8 KL8 hL8
    try dsimp only [Ex.then] at H
    refine cq [(24, _), (2, _), (5, _), (22, _), (23, _)] ?_
    refine T.seq fun K9 hK9 => T.region (rp (Pu.bin rfl rfl rfl) (RS.nil (hK9 _ _ ?_)))
    refine T.seq fun K10 hK10 => ?_
    refine T.condP rfl (fun hc12 => ?_) (fun hc12 => ?_)
    ·have H := ifT hc12 H
     refine T.skip (hK10 _ _ ?_)
     refine T.seq fun K11 hK11 => T.block (T.seq fun K12 hK12 => T.region ?_)
     obtain ⟨g13, H⟩ := gdE H
     obtain ⟨bl14, ol15, rfl⟩ := R_ptr h1 (ne_of_pos (pos_of g13))
     refine rp (Pu.indexSl sl37 rfl rfl g13) (rq (Qt.ldW (α := Bld) (cs := [_, _, _, _, _, _]) (Rd.base h1) ty120 rfl rfl g13 rfl (by rintro _ _ rfl; rfl)) (RS.solid (Sd.alloc zr120 rfl) rfl rfl fun b16 => RS.solid (Sd.stB (cs' := [_, _, _, _, _, _]) 2 ty120 rfl rfl rfl rfl rfl rfl rfl rfl) rfl rfl fun _ => RS.nil (hK12 _ _ (cq [(2, _), (5, _), (7, _), (22, _), (23, _), (24, _)] ?_))))
     refine T.seq fun K13 hK13 => T.seq fun K14 hK14 => T.region (rq (Qt.ldBA (us := [_, _, _, _, _, _]) 2 ty120 rfl rfl rfl rfl) ?_)
     obtain ⟨x17, hx17, H⟩ := bindE H
     refine rq (Qt.call (vs := [.agg #[.int .i64 ((gi a1_l v9).id), .int .i64 ((gi a1_l v9).owner), .int .i64 ((gi a1_l v9).x), .int .i64 ((gi a1_l v9).y), .int .i64 ((gi a1_l v9).w), .int .i64 ((gi a1_l v9).h)]]) ent140 rfl fun w s => build_form_walk (gi a1_l v9) w  hx17) (rp (Pu.not rfl) (rM rfl ?_))
     refine RS.joinB H 5 36 (fun b20 => .bool b20) [(2, _), (5, _), (7, _), (22, _), (23, _), (24, _)] ⟨rfl, rfl, rfl, rfl, rfl, rfl, trivial⟩ ?_ ?_
     ·intro b20 H
      refine rM rfl ?_
      refine RS.joinB H 5 42 (fun b23 => .bool b23) [(2, _), (5, _), (7, _), (22, _), (23, _), (24, _)] ⟨rfl, rfl, rfl, rfl, rfl, rfl, trivial⟩ ?_ ?_
      ·intro b23 H
       refine RS.nil (hK14 _ _ ?_)
       refine T.cond rfl (fun hc24 => ?_) (fun hc24 => ?_)
       ·have H := ifT hc24 H
        refine cq [] ?_
        refine T.seq fun K15 hK15 => T.region (rA rfl (RS.nil (hK15 _ _ ?_)))
        obtain rfl := hd8 _ H
        have H := HX8
        obtain rfl := sj H
        refine T.rt (Cont.ret1 rfl rfl fun w' s => ?_)
        exact ⟨rfl, s.ext⟩
       ·have H := ifB hc24 H
        refine T.skip (hK13 _ _ ?_)
        refine T.seq fun K16 hK16 => T.region (rq (Qt.ldBA (us := [_, _, _]) 0 ty36 rfl rfl rfl rfl) (rq (Qt.ldBA (us := [_, _, _, _, _, _]) 2 ty120 rfl rfl rfl rfl) ?_))
        obtain ⟨x25, hx25, H⟩ := bindE H
        refine RS.solid (Sd.callN (vs := [.agg #[.int .i64 a0_g.w, .int .i64 a0_g.h, .slice p0 a0_g.tiles.length c0], .agg #[.int .i64 ((gi a1_l v9).id), .int .i64 ((gi a1_l v9).owner), .int .i64 ((gi a1_l v9).x), .int .i64 ((gi a1_l v9).y), .int .i64 ((gi a1_l v9).w), .int .i64 ((gi a1_l v9).h)]]) ent143 rfl (fun w s => build_Tiles_walk a0_g (gi a1_l v9) w ((Rd.base h0) w s) hx25)) rfl rfl fun q26 => rp (Pu.lenSl sl23 rfl) (rM rfl (RS.nil (hK16 _ _ (cq [(2, _), (5, _), (22, _), (23, _), (24, _), (45, _), (46, _), (47, _)] ?_))))
        refine T.joinE (σ := List Bool) (γ := Unit) H Ex.go [(2, _), (5, _), (22, _), (23, _), (24, _)] ⟨rfl, rfl, rfl, rfl, rfl, trivial⟩ (fun v28 _ => []) (fun v28 _ => Sat w [blk b1 [.int .i64 a0_g.w, .int .i64 a0_g.h, .slice p0 a0_g.tiles.length c0] 36, row nilH 4 (rowV (some b6, (a0_g.tiles.length : Int).toNat) ((a0_g.tiles.length : Int).toNat)) v28, blk b16 [.int .i64 ((gi a1_l v9).id), .int .i64 ((gi a1_l v9).owner), .int .i64 ((gi a1_l v9).x), .int .i64 ((gi a1_l v9).y), .int .i64 ((gi a1_l v9).w), .int .i64 ((gi a1_l v9).h)] 120, row nilH 3 (rowV q26 x25.length) x25]) ?_ ?_
        ·rintro v28 ⟨⟩ H
         try dsimp only [Ex.then] at H
         refine Cont.conseq (fr' := [(2, _), (5, _), (22, _), (23, _), (24, _)]) ?_ ⟨rfl, rfl, rfl, rfl, rfl, trivial⟩ (fun _ s => s)
         refine id (hK11 _ _ ?_)
         refine T.region ?_
         obtain ⟨g29, H⟩ := gdE H
         refine rp (Pu.addS rfl rfl g29) (rM rfl (RS.nil (hL8 _ _ ((v9 + 1), v28) () H ⟨rfl, rfl, rfl, rfl, trivial⟩ ⟨rfl, trivial⟩ (fun w s => s.pick [0, 1] (by decide) rfl))))
        ·intro z27 hz27 HX27 hJ27
         refine T.block ?_
         refine T.loopA (γ := Unit) hz27 [(2, _), (5, _), (22, _), (23, _), (24, _), (45, _), (46, _)] (fun (v30, l31) _ => [(47, .int .i64 v30)]) (fun (v30, l31) _ => Sat w [blk b1 [.int .i64 a0_g.w, .int .i64 a0_g.h, .slice p0 a0_g.tiles.length c0] 36, row nilH 4 (rowV (some b6, (a0_g.tiles.length : Int).toNat) ((a0_g.tiles.length : Int).toNat)) l31, blk b16 [.int .i64 ((gi a1_l v9).id), .int .i64 ((gi a1_l v9).owner), .int .i64 ((gi a1_l v9).x), .int .i64 ((gi a1_l v9).y), .int .i64 ((gi a1_l v9).w), .int .i64 ((gi a1_l v9).h)] 120, row nilH 3 (rowV q26 x25.length) x25]) () ⟨rfl, rfl, rfl, rfl, rfl, rfl, rfl, trivial⟩ ⟨rfl, trivial⟩ (fun w s => s) ?_
         rintro ⟨v30, l31⟩ ⟨⟩ y32 H hd27 KL27 hL27
         try dsimp only [Ex.then] at H
         refine cq [(47, _), (2, _), (5, _), (22, _), (23, _), (24, _), (45, _), (46, _)] ?_
         refine T.seq fun K17 hK17 => T.region (rp (Pu.bin rfl rfl rfl) (RS.nil (hK17 _ _ ?_)))
         refine T.seq fun K18 hK18 => ?_
         refine T.condP rfl (fun hc33 => ?_) (fun hc33 => ?_)
         ·have H := ifT hc33 H
          refine T.skip (hK18 _ _ ?_)
          refine T.seq fun K19 hK19 => T.block (T.seq fun K20 hK20 => T.region ?_)
          obtain ⟨g34, H⟩ := gdE H
          refine RS.know (p := ∃ g cap, q26 = (some g, cap)) (fun w s => (s.row_some (k := 3) rfl (pos_of g34))) ?_
          rintro ⟨gg35, cc36, rfl⟩
          refine rp (Pu.indexSl sl23 rfl rfl g34) (rq (Qt.ld0 (α := Int) (Rd.ofRowN 3 rfl) ty3 rfl rfl g34 (by rintro _ _ rfl; rfl)) (rA rfl (RS.nil (hK20 _ _ (cq [(2, _), (5, _), (9, _), (22, _), (23, _), (24, _), (45, _), (46, _), (47, _)] ?_)))))
          refine T.seq fun K21 hK21 => T.seq fun K22 hK22 => T.region (rM rfl (rM rfl ?_))
          obtain ⟨g37, H⟩ := gdE H
          refine RS.know (fun w s => (s.row_fits (q := (some b6, (a0_g.tiles.length : Int).toNat)) (m := (a0_g.tiles.length : Int).toNat) (k := 1) rfl)) fun hf38 => ?_
          refine rp (Pu.indexSl sl59 rfl rfl g37) (rq (Qt.ld0 (α := Bool) (Rd.ofRowN 1 rfl) ty4 rfl rfl (idx_of hf38.1 g37) (by rintro _ _ rfl; rfl)) (RS.nil (hK22 _ _ ?_)))
          refine T.cond rfl (fun hc39 => ?_) (fun hc39 => ?_)
          ·have H := ifT hc39 H
           refine cq [] ?_
           refine T.seq fun K23 hK23 => T.region (rA rfl (RS.nil (hK23 _ _ ?_)))
           obtain rfl := hd27 _ H
           have H := HX27
           obtain rfl := hd8 _ H
           have H := HX8
           obtain rfl := sj H
           refine T.rt (Cont.ret1 rfl rfl fun w' s => ?_)
           exact ⟨rfl, s.ext⟩
          ·have H := ifB hc39 H
           refine T.skip (hK21 _ _ (cq [(2, _), (5, _), (9, _), (22, _), (23, _), (24, _), (45, _), (46, _), (47, _)] ?_))
           refine T.region (rM rfl (rM rfl ?_))
           obtain ⟨g40, H⟩ := gdE H
           refine RS.know (fun w s => (s.row_fits (q := (some b6, (a0_g.tiles.length : Int).toNat)) (m := (a0_g.tiles.length : Int).toNat) (k := 1) rfl)) fun hf41 => ?_
           refine rp (Pu.indexSl sl59 rfl rfl g40) (RS.solid (Sd.st0 (α := Bool) 1 true rfl ty4 rfl rfl rfl (idx_of hf41.1 g40) rfl rfl (by decide) rfl (by rintro _ _ rfl; rfl)) rfl rfl fun _ => RS.nil (hK19 _ _ (cq [(2, _), (5, _), (22, _), (23, _), (24, _), (45, _), (46, _), (47, _)] ?_)))
           refine T.region ?_
           obtain ⟨g42, H⟩ := gdE H
           refine rp (Pu.addS rfl rfl g42) (rM rfl (RS.nil (hL27 _ _ ((v30 + 1), (si l31 (gi x25 v30) true)) () H ⟨rfl, rfl, rfl, rfl, rfl, rfl, rfl, trivial⟩ ⟨rfl, trivial⟩ (fun w s => s))))
         ·have H := ifF hc33 H
          obtain rfl := hd27 _ H
          refine T.xt (hJ27 _ _ l31 () HX27 ⟨rfl, rfl, rfl, rfl, rfl, trivial⟩ trivial (fun w s => s))
      ·intro z43 H hJ22
       refine RS.split 37 rfl (fun hc21 => ?_) (fun hc21 => ?_)
       ·have H := ifT hc21 H
        refine ro (ro (ro (ro (rp (Pu.pickT rfl rfl) ?_))))
        obtain rfl := sj H
        exact hJ22 _ _ ⟨rfl, rfl, rfl, rfl, rfl, rfl, rfl, trivial⟩ (fun w s => s)
       ·have H := ifB hc21 H
        refine rq (Qt.ldBA (us := [_, _, _]) 0 ty36 rfl rfl rfl rfl) (rq (Qt.ldBA (us := [_, _, _, _, _, _]) 2 ty120 rfl rfl rfl rfl) ?_)
        obtain ⟨x44, hx44, H⟩ := bindE H
        refine rq (Qt.call (vs := [.agg #[.int .i64 a0_g.w, .int .i64 a0_g.h, .slice p0 a0_g.tiles.length c0], .agg #[.int .i64 ((gi a1_l v9).id), .int .i64 ((gi a1_l v9).owner), .int .i64 ((gi a1_l v9).x), .int .i64 ((gi a1_l v9).y), .int .i64 ((gi a1_l v9).w), .int .i64 ((gi a1_l v9).h)]]) ent142 rfl fun w s => build_firm_walk a0_g (gi a1_l v9) w ((Rd.base h0) w s) hx44) (rp (Pu.not rfl) (rp (Pu.pickF rfl rfl) ?_))
        obtain rfl := sj H
        exact hJ22 _ _ ⟨rfl, rfl, rfl, rfl, rfl, rfl, rfl, trivial⟩ (fun w s => s)
     ·intro z45 H hJ19
      refine RS.split 31 rfl (fun hc18 => ?_) (fun hc18 => ?_)
      ·have H := ifT hc18 H
       refine ro (ro (ro (ro (rp (Pu.pickT rfl rfl) ?_))))
       obtain rfl := sj H
       exact hJ19 _ _ ⟨rfl, rfl, rfl, rfl, rfl, rfl, rfl, trivial⟩ (fun w s => s)
      ·have H := ifB hc18 H
       refine rq (Qt.ldBA (us := [_, _, _]) 0 ty36 rfl rfl rfl rfl) (rq (Qt.ldBA (us := [_, _, _, _, _, _]) 2 ty120 rfl rfl rfl rfl) ?_)
       obtain ⟨x46, hx46, H⟩ := bindE H
       refine rq (Qt.call (vs := [.agg #[.int .i64 a0_g.w, .int .i64 a0_g.h, .slice p0 a0_g.tiles.length c0], .agg #[.int .i64 ((gi a1_l v9).id), .int .i64 ((gi a1_l v9).owner), .int .i64 ((gi a1_l v9).x), .int .i64 ((gi a1_l v9).y), .int .i64 ((gi a1_l v9).w), .int .i64 ((gi a1_l v9).h)]]) ent141 rfl fun w s => build_on_walk a0_g (gi a1_l v9) w ((Rd.base h0) w s) hx46) (rp (Pu.not rfl) (rp (Pu.pickF rfl rfl) ?_))
       obtain rfl := sj H
       exact hJ19 _ _ ⟨rfl, rfl, rfl, rfl, rfl, rfl, rfl, trivial⟩ (fun w s => s)
    ·have H := ifF hc12 H
     obtain rfl := hd8 _ H
     refine T.xt (hJ8 _ _ () () HX8 trivial trivial (fun w s => (s.deadRow).pick [0, 2] (by decide) rfl))
 ·intro z47 H hJ3
  refine RS.splitP 13 rfl (fun hc2 => ?_) (fun hc2 => ?_)
  ·have H := ifT hc2 H
   refine ro (ro (ro (rp (Pu.pickT rfl rfl) ?_)))
   obtain rfl := sj H
   exact hJ3 _ _ ⟨rfl, rfl, rfl, trivial⟩ (fun w s => s)
  ·have H := ifF hc2 H
   refine rM rfl ?_
   obtain ⟨x48, hx48, H⟩ := bindE H
   refine rq (Qt.call (vs := [.slice p1 a1_l.length c1]) ent139 rfl fun w s => build_rising_walk a1_l w ((Rd.base h1) w s) hx48) (rp (Pu.not rfl) (rp (Pu.pickF rfl rfl) ?_))
   obtain rfl := sj H
   exact hJ3 _ _ ⟨rfl, rfl, rfl, trivial⟩ (fun w s => s)
theorem build_Cover_walk (a0_g : Grd) (a1_l : List Bld) (w : World) {v0 v1 : Value} (h0 : R (hpOf w) a0_g.tiles [v0]) (h1 : R (hpOf w) a1_l [v1]) {r : List Bool} (H : build_Cover a0_g a1_l = some r) : Calls Tryz.prog 154 #[.agg #[.int .i64 a0_g.w, .int .i64 a0_g.h, v0], v1] w fun e w' => ∃ q1 : (Option Nat × Nat), e = .returned (rowV q1 r.length) ∧ Sat w [row nilH 4 (rowV q1 r.length) r] w' := by
 have hm0 := R_max h0
 obtain ⟨p0, c0, rfl⟩ := R_form h0
 have hm1 := R_max h1
 obtain ⟨p1, c1, rfl⟩ := R_form h1
 unfold build_Cover at H
 refine T.enter (args := [_, _]) (S := Sat w []) Tryz.func154 rfl rfl (Sat.start w) ?_
 refine T.seq fun K1 hK1 => T.region (RS.solid (Sd.box (cs := [_, _, _]) rfl rfl) rfl rfl fun b1 => rA rfl (RS.nil (hK1 _ _ ?_)))
 refine T.seq fun K2 hK2 => T.region (rp (Pu.fieldAddr fd36_2 rfl) (rq (Qt.ldB 0 ty34 rfl rfl rfl) (rp (Pu.lenSl sl34 rfl) ?_)))
 obtain ⟨g3, H⟩ := gdE H
 refine RS.solid (Sd.make (α := Bool) (B := nilH) false sl59 zr4 rfl (by decide) rfl rfl (by omega) (by omega) (by omega)) rfl rfl fun b2 => rA rfl (RS.nil (hK2 _ _ (cq [(1, _), (2, _), (5, _)] ?_)))
 refine T.seq fun K3 hK3 => T.seq fun K4 hK4 => T.region (rM rfl (rp (Pu.lenSl sl37 rfl) (rM rfl (RS.nil (hK4 _ _ ?_)))))
 refine T.joinE (σ := List Bool) (γ := Unit) H (fun s => s) [(5, _)] ⟨rfl, trivial⟩ (fun v5 _ => []) (fun v5 _ => Sat w [blk b1 [.int .i64 a0_g.w, .int .i64 a0_g.h, .slice p0 a0_g.tiles.length c0] 36, row nilH 4 (rowV (some b2, (a0_g.tiles.length : Int).toNat) ((a0_g.tiles.length : Int).toNat)) v5]) ?_ ?_
 ·rintro v5 ⟨⟩ H
  try dsimp only [Ex.then] at H
  refine Cont.conseq (fr' := [(5, _)]) ?_ ⟨rfl, trivial⟩ (fun _ s => s)
  refine id (hK3 _ _ ?_)
  refine T.seq fun K5 hK5 => T.region (rM rfl (rA rfl (RS.nil (hK5 _ _ ?_))))
  obtain rfl := sj H
  refine T.rt (Cont.ret1 rfl rfl fun w' s => ?_)
  exact ⟨(some b2, (a0_g.tiles.length : Int).toNat), (by simp only [(s.row_fits (q := (some b2, (a0_g.tiles.length : Int).toNat)) (m := (a0_g.tiles.length : Int).toNat) (k := 1) rfl).1]; try rfl), (Sat.relen (q := (some b2, (a0_g.tiles.length : Int).toNat)) (m := (a0_g.tiles.length : Int).toNat) 1 s rfl).pick [1] (by decide) rfl⟩
 ·intro z4 hz4 HX4 hJ4
  refine T.block ?_
  refine T.loopA (γ := Unit) hz4 [(2, _), (5, _), (14, _), (15, _)] (fun (v6, l7) _ => [(16, .int .i64 v6)]) (fun (v6, l7) _ => Sat w [blk b1 [.int .i64 a0_g.w, .int .i64 a0_g.h, .slice p0 a0_g.tiles.length c0] 36, row nilH 4 (rowV (some b2, (a0_g.tiles.length : Int).toNat) ((a0_g.tiles.length : Int).toNat)) l7]) () ⟨rfl, rfl, rfl, rfl, trivial⟩ ⟨rfl, trivial⟩ (fun w s => s) ?_
  rintro ⟨v6, l7⟩ ⟨⟩ y8 H hd4 KL4 hL4
  try dsimp only [Ex.then] at H
  refine cq [(16, _), (2, _), (5, _), (14, _), (15, _)] ?_
  refine T.seq fun K6 hK6 => T.region (rp (Pu.bin rfl rfl rfl) (RS.nil (hK6 _ _ ?_)))
  refine T.seq fun K7 hK7 => ?_
  refine T.condP rfl (fun hc9 => ?_) (fun hc9 => ?_)
  ·have H := ifT hc9 H
   refine T.skip (hK7 _ _ ?_)
   refine T.seq fun K8 hK8 => T.block (T.seq fun K9 hK9 => T.region ?_)
   obtain ⟨g10, H⟩ := gdE H
   obtain ⟨bl11, ol12, rfl⟩ := R_ptr h1 (ne_of_pos (pos_of g10))
   refine rp (Pu.indexSl sl37 rfl rfl g10) (rq (Qt.ldW (α := Bld) (cs := [_, _, _, _, _, _]) (Rd.base h1) ty120 rfl rfl g10 rfl (by rintro _ _ rfl; rfl)) (RS.solid (Sd.alloc zr120 rfl) rfl rfl fun b13 => RS.solid (Sd.stB (cs' := [_, _, _, _, _, _]) 2 ty120 rfl rfl rfl rfl rfl rfl rfl rfl) rfl rfl fun _ => RS.nil (hK9 _ _ (cq [(2, _), (5, _), (7, _), (14, _), (15, _), (16, _)] ?_))))
   refine T.seq fun K10 hK10 => T.region (rq (Qt.ldBA (us := [_, _, _]) 0 ty36 rfl rfl rfl rfl) (rq (Qt.ldBA (us := [_, _, _, _, _, _]) 2 ty120 rfl rfl rfl rfl) ?_))
   obtain ⟨x14, hx14, H⟩ := bindE H
   refine RS.solid (Sd.callN (vs := [.agg #[.int .i64 a0_g.w, .int .i64 a0_g.h, .slice p0 a0_g.tiles.length c0], .agg #[.int .i64 ((gi a1_l v6).id), .int .i64 ((gi a1_l v6).owner), .int .i64 ((gi a1_l v6).x), .int .i64 ((gi a1_l v6).y), .int .i64 ((gi a1_l v6).w), .int .i64 ((gi a1_l v6).h)]]) ent143 rfl (fun w s => build_Tiles_walk a0_g (gi a1_l v6) w ((Rd.base h0) w s) hx14)) rfl rfl fun q15 => rp (Pu.lenSl sl23 rfl) (rM rfl (RS.nil (hK10 _ _ (cq [(2, _), (5, _), (14, _), (15, _), (16, _), (22, _), (23, _), (24, _)] ?_))))
   refine T.joinE (σ := List Bool) (γ := Unit) H (fun s => s) [(2, _), (5, _), (14, _), (15, _), (16, _)] ⟨rfl, rfl, rfl, rfl, rfl, trivial⟩ (fun v17 _ => []) (fun v17 _ => Sat w [blk b1 [.int .i64 a0_g.w, .int .i64 a0_g.h, .slice p0 a0_g.tiles.length c0] 36, row nilH 4 (rowV (some b2, (a0_g.tiles.length : Int).toNat) ((a0_g.tiles.length : Int).toNat)) v17, blk b13 [.int .i64 ((gi a1_l v6).id), .int .i64 ((gi a1_l v6).owner), .int .i64 ((gi a1_l v6).x), .int .i64 ((gi a1_l v6).y), .int .i64 ((gi a1_l v6).w), .int .i64 ((gi a1_l v6).h)] 120, row nilH 3 (rowV q15 x14.length) x14]) ?_ ?_
   ·rintro v17 ⟨⟩ H
    try dsimp only [Ex.then] at H
    refine Cont.conseq (fr' := [(2, _), (5, _), (14, _), (15, _), (16, _)]) ?_ ⟨rfl, rfl, rfl, rfl, rfl, trivial⟩ (fun _ s => s)
    refine id (hK8 _ _ ?_)
    refine T.region ?_
    obtain ⟨g18, H⟩ := gdE H
    refine rp (Pu.addS rfl rfl g18) (rM rfl (RS.nil (hL4 _ _ ((v6 + 1), v17) () H ⟨rfl, rfl, rfl, rfl, trivial⟩ ⟨rfl, trivial⟩ (fun w s => s.pick [0, 1] (by decide) rfl))))
   ·intro z16 hz16 HX16 hJ16
    refine T.block ?_
    refine T.loopA (γ := Unit) hz16 [(2, _), (5, _), (14, _), (15, _), (16, _), (22, _), (23, _)] (fun (v19, l20) _ => [(24, .int .i64 v19)]) (fun (v19, l20) _ => Sat w [blk b1 [.int .i64 a0_g.w, .int .i64 a0_g.h, .slice p0 a0_g.tiles.length c0] 36, row nilH 4 (rowV (some b2, (a0_g.tiles.length : Int).toNat) ((a0_g.tiles.length : Int).toNat)) l20, blk b13 [.int .i64 ((gi a1_l v6).id), .int .i64 ((gi a1_l v6).owner), .int .i64 ((gi a1_l v6).x), .int .i64 ((gi a1_l v6).y), .int .i64 ((gi a1_l v6).w), .int .i64 ((gi a1_l v6).h)] 120, row nilH 3 (rowV q15 x14.length) x14]) () ⟨rfl, rfl, rfl, rfl, rfl, rfl, rfl, trivial⟩ ⟨rfl, trivial⟩ (fun w s => s) ?_
    rintro ⟨v19, l20⟩ ⟨⟩ y21 H hd16 KL16 hL16
    try dsimp only [Ex.then] at H
    refine cq [(24, _), (2, _), (5, _), (14, _), (15, _), (16, _), (22, _), (23, _)] ?_
    refine T.seq fun K11 hK11 => T.region (rp (Pu.bin rfl rfl rfl) (RS.nil (hK11 _ _ ?_)))
    refine T.seq fun K12 hK12 => ?_
    refine T.condP rfl (fun hc22 => ?_) (fun hc22 => ?_)
    ·have H := ifT hc22 H
     refine T.skip (hK12 _ _ ?_)
     refine T.seq fun K13 hK13 => T.block (T.seq fun K14 hK14 => T.region ?_)
     obtain ⟨g23, H⟩ := gdE H
     refine RS.know (p := ∃ g cap, q15 = (some g, cap)) (fun w s => (s.row_some (k := 3) rfl (pos_of g23))) ?_
     rintro ⟨gg24, cc25, rfl⟩
     refine rp (Pu.indexSl sl23 rfl rfl g23) (rq (Qt.ld0 (α := Int) (Rd.ofRowN 3 rfl) ty3 rfl rfl g23 (by rintro _ _ rfl; rfl)) (rA rfl (RS.nil (hK14 _ _ (cq [(2, _), (5, _), (9, _), (14, _), (15, _), (16, _), (22, _), (23, _), (24, _)] ?_)))))
     refine T.region (rM rfl (rM rfl ?_))
     obtain ⟨g26, H⟩ := gdE H
     refine RS.know (fun w s => (s.row_fits (q := (some b2, (a0_g.tiles.length : Int).toNat)) (m := (a0_g.tiles.length : Int).toNat) (k := 1) rfl)) fun hf27 => ?_
     refine rp (Pu.indexSl sl59 rfl rfl g26) (RS.solid (Sd.st0 (α := Bool) 1 true rfl ty4 rfl rfl rfl (idx_of hf27.1 g26) rfl rfl (by decide) rfl (by rintro _ _ rfl; rfl)) rfl rfl fun _ => RS.nil (hK13 _ _ (cq [(2, _), (5, _), (14, _), (15, _), (16, _), (22, _), (23, _), (24, _)] ?_)))
     refine T.region ?_
     obtain ⟨g28, H⟩ := gdE H
     refine rp (Pu.addS rfl rfl g28) (rM rfl (RS.nil (hL16 _ _ ((v19 + 1), (si l20 (gi x14 v19) true)) () H ⟨rfl, rfl, rfl, rfl, rfl, rfl, rfl, trivial⟩ ⟨rfl, trivial⟩ (fun w s => s))))
    ·have H := ifF hc22 H
     obtain rfl := hd16 _ H
     refine T.xt (hJ16 _ _ l20 () HX16 ⟨rfl, rfl, rfl, rfl, rfl, trivial⟩ trivial (fun w s => s))
  ·have H := ifF hc9 H
   obtain rfl := hd4 _ H
   refine T.xt (hJ4 _ _ l7 () HX4 ⟨rfl, trivial⟩ trivial (fun w s => s))
theorem throngref5_Ground_walk (a0_g : Grd) (w : World) {v0 : Value} (h0 : R (hpOf w) a0_g.tiles [v0]) {r : Bool} (H : throngref5_Ground a0_g = some r) : Calls Tryz.prog 67 #[.agg #[.int .i64 a0_g.w, .int .i64 a0_g.h, v0]] w fun e w' => e = .returned (.bool r) ∧ Ext w w' := by
 have hm0 := R_max h0
 obtain ⟨p0, c0, rfl⟩ := R_form h0
 unfold throngref5_Ground at H
 refine T.enter (args := [_]) (S := Sat w []) Tryz.func67 rfl rfl (Sat.start w) ?_
 refine T.seq fun K1 hK1 => T.region (RS.solid (Sd.box (cs := [_, _, _]) rfl rfl) rfl rfl fun b1 => rA rfl (RS.nil (hK1 _ _ ?_)))
 refine T.seq fun K2 hK2 => T.seq fun K3 hK3 => T.region (rp (Pu.fieldAddr fd36_0 rfl) (rq (Qt.ldB 0 ty3 rfl rfl rfl) (rp (Pu.bin rfl rfl rfl) (rM rfl ?_))))
 refine RS.joinV 4 11 (.bool (decide ((a0_g.w < 1) ∨ (128 < a0_g.w)))) [(1, _)] ⟨rfl, trivial⟩ ?_ ?_
 ·refine rM rfl ?_
  refine RS.joinV 4 16 (.bool (decide (((a0_g.w < 1) ∨ (128 < a0_g.w)) ∨ (a0_g.h < 1)))) [(1, _)] ⟨rfl, trivial⟩ ?_ ?_
  ·refine rM rfl ?_
   refine RS.joinV 4 21 (.bool (decide ((((a0_g.w < 1) ∨ (128 < a0_g.w)) ∨ (a0_g.h < 1)) ∨ (128 < a0_g.h)))) [(1, _)] ⟨rfl, trivial⟩ ?_ ?_
   ·refine rM rfl ?_
    obtain ⟨g10, H⟩ := gdE H
    refine RS.joinV 10 32 (.bool (decide (((((a0_g.w < 1) ∨ (128 < a0_g.w)) ∨ (a0_g.h < 1)) ∨ (128 < a0_g.h)) ∨ (¬ (a0_g.tiles.length : Int) = (a0_g.w * a0_g.h))))) [(1, _)] ⟨rfl, trivial⟩ ?_ ?_
    ·refine RS.nil (hK3 _ _ ?_)
     refine T.condP rfl (fun hc11 => ?_) (fun hc11 => ?_)
     ·have H := ifT hc11 H
      refine T.seq fun K4 hK4 => T.region (rA rfl (RS.nil (hK4 _ _ ?_)))
      obtain rfl := sj H
      refine T.rt (Cont.ret1 rfl rfl fun w' s => ?_)
      exact ⟨rfl, s.ext⟩
     ·have H := ifF hc11 H
      refine T.skip (hK2 _ _ ?_)
      refine T.seq fun K5 hK5 => T.seq fun K6 hK6 => T.region (rA rfl (RS.nil (hK6 _ _ ?_)))
      refine T.joinE (σ := Unit) (γ := Unit) H Ex.go [] trivial (fun _ _ => []) (fun _ _ => Sat w [blk b1 [.int .i64 a0_g.w, .int .i64 a0_g.h, .slice p0 a0_g.tiles.length c0] 36]) ?_ ?_
      ·rintro ⟨⟩ ⟨⟩ H
       try dsimp only [Ex.then] at H
       refine Cont.conseq (fr' := []) ?_ trivial (fun _ s => s)
       refine id (hK5 _ _ ?_)
       refine T.seq fun K7 hK7 => T.region (rA rfl (RS.nil (hK7 _ _ ?_)))
       obtain rfl := sj H
       refine T.rt (Cont.ret1 rfl rfl fun w' s => ?_)
       exact ⟨rfl, s.ext⟩
      ·intro z12 hz12 HX12 hJ12
       refine T.block ?_
       refine T.loopA (γ := Unit) hz12 [(1, _)] (fun v13 _ => [(3, .int .i64 v13)]) (fun v13 _ => Sat w [blk b1 [.int .i64 a0_g.w, .int .i64 a0_g.h, .slice p0 a0_g.tiles.length c0] 36]) () ⟨rfl, trivial⟩ ⟨rfl, trivial⟩ (fun w s => s) ?_
       rintro v13 ⟨⟩ y14 H hd12 KL12 hL12
       try dsimp only [Ex.then] at H
       refine cq [(3, _), (1, _)] ?_
       refine T.seq fun K8 hK8 => T.seq fun K9 hK9 => T.region (rM rfl (rp (Pu.fieldAddr fd36_2 rfl) (rq (Qt.ldB 0 ty34 rfl rfl rfl) (rp (Pu.lenSl sl34 rfl) (rp (Pu.bin rfl rfl rfl) (RS.nil (hK9 _ _ ?_)))))))
       refine T.condP rfl (fun hc15 => ?_) (fun hc15 => ?_)
       ·have H := ifT hc15 H
        refine T.skip (hK8 _ _ (cq [(1, _), (3, _)] ?_))
        refine T.seq fun K10 hK10 => T.block (T.seq fun K11 hK11 => T.region (rp (Pu.fieldAddr fd36_2 rfl) (rq (Qt.ldB 0 ty34 rfl rfl rfl) (rM rfl ?_))))
        obtain ⟨g16, H⟩ := gdE H
        obtain ⟨bl17, ol18, rfl⟩ := R_ptr h0 (ne_of_pos (pos_of g16))
        refine rp (Pu.indexSl sl34 rfl rfl g16) (rq (Qt.ld0 (α := UInt8) (Rd.base h0) ty5 rfl rfl g16 (by rintro _ _ rfl; rfl)) (rp (Pu.bin rfl rfl rfl) (RS.nil (hK11 _ _ ?_))))
        refine T.condP rfl (fun hc19 => ?_) (fun hc19 => ?_)
        ·have H := ifT hc19 H
         refine cq [] ?_
         refine T.seq fun K12 hK12 => T.region (rA rfl (RS.nil (hK12 _ _ ?_)))
         obtain rfl := hd12 _ H
         have H := HX12
         obtain rfl := sj H
         refine T.rt (Cont.ret1 rfl rfl fun w' s => ?_)
         exact ⟨rfl, s.ext⟩
        ·have H := ifF hc19 H
         refine T.skip (hK10 _ _ (cq [(1, _), (3, _)] ?_))
         refine T.region (rM rfl ?_)
         obtain ⟨g20, H⟩ := gdE H
         refine rp (Pu.addS rfl rfl g20) (rA rfl (RS.nil (hL12 _ _ (v13 + 1) () H ⟨rfl, trivial⟩ ⟨rfl, trivial⟩ (fun w s => s))))
       ·have H := ifF hc15 H
        obtain rfl := hd12 _ H
        refine T.xt (hJ12 _ _ () () HX12 trivial trivial (fun w s => s))
    ·intro hJ9
     refine RS.splitP 22 rfl (fun hc8 => ?_) (fun hc8 => ?_)
     ·refine ro (ro (ro (ro (ro (ro (ro (ro (ro (rp (Pu.pickT rfl rfl) ?_)))))))))
      exact hJ9 _ _ ⟨dOrT hc8, rfl, trivial⟩ (fun w s => s)
     ·refine rp (Pu.fieldAddr fd36_2 rfl) (rq (Qt.ldB 0 ty34 rfl rfl rfl) (rp (Pu.lenSl sl34 rfl) (rp (Pu.fieldAddr fd36_0 rfl) (rq (Qt.ldB 0 ty3 rfl rfl rfl) (rp (Pu.fieldAddr fd36_1 rfl) (rq (Qt.ldB 0 ty3 rfl rfl rfl) (rp (Pu.mulS rfl rfl (g10 hc8)) (rp (Pu.bin rfl rfl rfl) (rp (Pu.pickF rfl rfl) ?_)))))))))
      exact hJ9 _ _ ⟨dOrF hc8, rfl, trivial⟩ (fun w s => s)
   ·intro hJ7
    refine RS.splitP 17 rfl (fun hc6 => ?_) (fun hc6 => ?_)
    ·refine ro (ro (ro (rp (Pu.pickT rfl rfl) ?_)))
     exact hJ7 _ _ ⟨dOrT hc6, rfl, trivial⟩ (fun w s => s)
    ·refine rp (Pu.fieldAddr fd36_1 rfl) (rq (Qt.ldB 0 ty3 rfl rfl rfl) (rp (Pu.bin rfl rfl rfl) (rp (Pu.pickF rfl rfl) ?_)))
     exact hJ7 _ _ ⟨dOrF hc6, rfl, trivial⟩ (fun w s => s)
  ·intro hJ5
   refine RS.splitP 12 rfl (fun hc4 => ?_) (fun hc4 => ?_)
   ·refine ro (ro (ro (rp (Pu.pickT rfl rfl) ?_)))
    exact hJ5 _ _ ⟨dOrT hc4, rfl, trivial⟩ (fun w s => s)
   ·refine rp (Pu.fieldAddr fd36_1 rfl) (rq (Qt.ldB 0 ty3 rfl rfl rfl) (rp (Pu.bin rfl rfl rfl) (rp (Pu.pickF rfl rfl) ?_)))
    exact hJ5 _ _ ⟨dOrF hc4, rfl, trivial⟩ (fun w s => s)
 ·intro hJ3
  refine RS.splitP 7 rfl (fun hc2 => ?_) (fun hc2 => ?_)
  ·refine ro (ro (ro (rp (Pu.pickT rfl rfl) ?_)))
   exact hJ3 _ _ ⟨dOrT hc2, rfl, trivial⟩ (fun w s => s)
  ·refine rp (Pu.fieldAddr fd36_0 rfl) (rq (Qt.ldB 0 ty3 rfl rfl rfl) (rp (Pu.bin rfl rfl rfl) (rp (Pu.pickF rfl rfl) ?_)))
   exact hJ3 _ _ ⟨dOrF hc2, rfl, trivial⟩ (fun w s => s)
theorem throngref5_Tile_walk (a0_g : Grd) (a1_t : Int) (w : World) {v0 : Value} (h0 : R (hpOf w) a0_g.tiles [v0]) {r : Bool} (H : throngref5_Tile a0_g a1_t = some r) : Calls Tryz.prog 15 #[.agg #[.int .i64 a0_g.w, .int .i64 a0_g.h, v0], .int .i64 a1_t] w fun e w' => e = .returned (.bool r) ∧ Ext w w' := by
 have hm0 := R_max h0
 obtain ⟨p0, c0, rfl⟩ := R_form h0
 unfold throngref5_Tile at H
 refine T.enter (args := [_, _]) (S := Sat w []) Tryz.func15 rfl rfl (Sat.start w) ?_
 refine T.seq fun K1 hK1 => T.region (RS.solid (Sd.box (cs := [_, _, _]) rfl rfl) rfl rfl fun b1 => rA rfl (RS.nil (hK1 _ _ ?_)))
 refine T.seq fun K2 hK2 => T.region (rM rfl (rp (Pu.bin rfl rfl rfl) (rM rfl ?_)))
 obtain ⟨g4, H⟩ := gdE H
 refine RS.joinV 8 15 (.bool (decide ((0 ≤ a1_t) ∧ (a1_t < (a0_g.w * a0_g.h))))) [(4, _)] ⟨rfl, trivial⟩ ?_ ?_
 ·refine rA rfl (RS.nil (hK2 _ _ ?_))
  obtain rfl := sj H
  refine T.rt (Cont.ret1 rfl rfl fun w' s => ?_)
  exact ⟨rfl, s.ext⟩
 ·intro hJ3
  refine RS.splitP 7 rfl (fun hc2 => ?_) (fun hc2 => ?_)
  ·refine rM rfl (rp (Pu.fieldAddr fd36_0 rfl) (rq (Qt.ldB 0 ty3 rfl rfl rfl) (rp (Pu.fieldAddr fd36_1 rfl) (rq (Qt.ldB 0 ty3 rfl rfl rfl) (rp (Pu.mulS rfl rfl (g4 hc2)) (rp (Pu.bin rfl rfl rfl) (rp (Pu.pickT rfl rfl) ?_)))))))
   exact hJ3 _ _ ⟨dAndT hc2, rfl, trivial⟩ (fun w s => s)
  ·refine ro (ro (ro (ro (ro (ro (ro (rp (Pu.pickF rfl rfl) ?_)))))))
   exact hJ3 _ _ ⟨dAndF hc2, rfl, trivial⟩ (fun w s => s)
theorem throngref8_Sides_walk (a0_b : Bld) (w : World) {r : Bool} (H : throngref8_Sides a0_b = some r) : Calls Tryz.prog 69 #[.agg #[.int .i64 a0_b.id, .int .i64 a0_b.owner, .int .i64 a0_b.x, .int .i64 a0_b.y, .int .i64 a0_b.w, .int .i64 a0_b.h]] w fun e w' => e = .returned (.bool r) ∧ Ext w w' := by
 unfold throngref8_Sides at H
 refine T.enter (args := [_]) (S := Sat w []) Tryz.func69 rfl rfl (Sat.start w) ?_
 refine T.seq fun K1 hK1 => T.region (RS.solid (Sd.box (cs := [_, _, _, _, _, _]) rfl rfl) rfl rfl fun b1 => rA rfl (RS.nil (hK1 _ _ ?_)))
 refine T.seq fun K2 hK2 => T.region (rp (Pu.fieldAddr fd120_0 rfl) (rq (Qt.ldB 0 ty3 rfl rfl rfl) (rp (Pu.bin rfl rfl rfl) (rM rfl ?_))))
 refine RS.joinV 4 10 (.bool (decide ((1 ≤ a0_b.id) ∧ (a0_b.id ≤ 1099511627776)))) [(1, _), (2, _)] ⟨rfl, rfl, trivial⟩ ?_ ?_
 ·refine rM rfl ?_
  refine RS.joinV 4 15 (.bool (decide (((1 ≤ a0_b.id) ∧ (a0_b.id ≤ 1099511627776)) ∧ (1 ≤ a0_b.owner)))) [(1, _), (2, _)] ⟨rfl, rfl, trivial⟩ ?_ ?_
  ·refine rM rfl ?_
   refine RS.joinV 4 20 (.bool (decide ((((1 ≤ a0_b.id) ∧ (a0_b.id ≤ 1099511627776)) ∧ (1 ≤ a0_b.owner)) ∧ (a0_b.owner ≤ 8)))) [(1, _), (2, _)] ⟨rfl, rfl, trivial⟩ ?_ ?_
   ·refine rM rfl ?_
    refine RS.joinV 4 25 (.bool (decide (((((1 ≤ a0_b.id) ∧ (a0_b.id ≤ 1099511627776)) ∧ (1 ≤ a0_b.owner)) ∧ (a0_b.owner ≤ 8)) ∧ (1 ≤ a0_b.w)))) [(1, _), (2, _)] ⟨rfl, rfl, trivial⟩ ?_ ?_
    ·refine rM rfl ?_
     refine RS.joinV 4 30 (.bool (decide ((((((1 ≤ a0_b.id) ∧ (a0_b.id ≤ 1099511627776)) ∧ (1 ≤ a0_b.owner)) ∧ (a0_b.owner ≤ 8)) ∧ (1 ≤ a0_b.w)) ∧ (a0_b.w ≤ 4)))) [(1, _), (2, _)] ⟨rfl, rfl, trivial⟩ ?_ ?_
     ·refine rM rfl ?_
      refine RS.joinV 4 35 (.bool (decide (((((((1 ≤ a0_b.id) ∧ (a0_b.id ≤ 1099511627776)) ∧ (1 ≤ a0_b.owner)) ∧ (a0_b.owner ≤ 8)) ∧ (1 ≤ a0_b.w)) ∧ (a0_b.w ≤ 4)) ∧ (1 ≤ a0_b.h)))) [(1, _), (2, _)] ⟨rfl, rfl, trivial⟩ ?_ ?_
      ·refine rM rfl ?_
       refine RS.joinV 4 40 (.bool (decide ((((((((1 ≤ a0_b.id) ∧ (a0_b.id ≤ 1099511627776)) ∧ (1 ≤ a0_b.owner)) ∧ (a0_b.owner ≤ 8)) ∧ (1 ≤ a0_b.w)) ∧ (a0_b.w ≤ 4)) ∧ (1 ≤ a0_b.h)) ∧ (a0_b.h ≤ 4)))) [(2, _)] ⟨rfl, trivial⟩ ?_ ?_
       ·refine rA rfl (RS.nil (hK2 _ _ ?_))
        obtain rfl := sj H
        refine T.rt (Cont.ret1 rfl rfl fun w' s => ?_)
        exact ⟨rfl, s.ext⟩
       ·intro hJ15
        refine RS.splitP 36 rfl (fun hc14 => ?_) (fun hc14 => ?_)
        ·refine rp (Pu.fieldAddr fd120_5 rfl) (rq (Qt.ldB 0 ty3 rfl rfl rfl) (rp (Pu.bin rfl rfl rfl) (rp (Pu.pickT rfl rfl) ?_)))
         exact hJ15 _ _ ⟨dAndT hc14, rfl, trivial⟩ (fun w s => s)
        ·refine ro (ro (ro (rp (Pu.pickF rfl rfl) ?_)))
         exact hJ15 _ _ ⟨dAndF hc14, rfl, trivial⟩ (fun w s => s)
      ·intro hJ13
       refine RS.splitP 31 rfl (fun hc12 => ?_) (fun hc12 => ?_)
       ·refine rp (Pu.fieldAddr fd120_5 rfl) (rq (Qt.ldB 0 ty3 rfl rfl rfl) (rp (Pu.bin rfl rfl rfl) (rp (Pu.pickT rfl rfl) ?_)))
        exact hJ13 _ _ ⟨dAndT hc12, rfl, rfl, trivial⟩ (fun w s => s)
       ·refine ro (ro (ro (rp (Pu.pickF rfl rfl) ?_)))
        exact hJ13 _ _ ⟨dAndF hc12, rfl, rfl, trivial⟩ (fun w s => s)
     ·intro hJ11
      refine RS.splitP 26 rfl (fun hc10 => ?_) (fun hc10 => ?_)
      ·refine rp (Pu.fieldAddr fd120_4 rfl) (rq (Qt.ldB 0 ty3 rfl rfl rfl) (rp (Pu.bin rfl rfl rfl) (rp (Pu.pickT rfl rfl) ?_)))
       exact hJ11 _ _ ⟨dAndT hc10, rfl, rfl, trivial⟩ (fun w s => s)
      ·refine ro (ro (ro (rp (Pu.pickF rfl rfl) ?_)))
       exact hJ11 _ _ ⟨dAndF hc10, rfl, rfl, trivial⟩ (fun w s => s)
    ·intro hJ9
     refine RS.splitP 21 rfl (fun hc8 => ?_) (fun hc8 => ?_)
     ·refine rp (Pu.fieldAddr fd120_4 rfl) (rq (Qt.ldB 0 ty3 rfl rfl rfl) (rp (Pu.bin rfl rfl rfl) (rp (Pu.pickT rfl rfl) ?_)))
      exact hJ9 _ _ ⟨dAndT hc8, rfl, rfl, trivial⟩ (fun w s => s)
     ·refine ro (ro (ro (rp (Pu.pickF rfl rfl) ?_)))
      exact hJ9 _ _ ⟨dAndF hc8, rfl, rfl, trivial⟩ (fun w s => s)
   ·intro hJ7
    refine RS.splitP 16 rfl (fun hc6 => ?_) (fun hc6 => ?_)
    ·refine rp (Pu.fieldAddr fd120_1 rfl) (rq (Qt.ldB 0 ty3 rfl rfl rfl) (rp (Pu.bin rfl rfl rfl) (rp (Pu.pickT rfl rfl) ?_)))
     exact hJ7 _ _ ⟨dAndT hc6, rfl, rfl, trivial⟩ (fun w s => s)
    ·refine ro (ro (ro (rp (Pu.pickF rfl rfl) ?_)))
     exact hJ7 _ _ ⟨dAndF hc6, rfl, rfl, trivial⟩ (fun w s => s)
  ·intro hJ5
   refine RS.splitP 11 rfl (fun hc4 => ?_) (fun hc4 => ?_)
   ·refine rp (Pu.fieldAddr fd120_1 rfl) (rq (Qt.ldB 0 ty3 rfl rfl rfl) (rp (Pu.bin rfl rfl rfl) (rp (Pu.pickT rfl rfl) ?_)))
    exact hJ5 _ _ ⟨dAndT hc4, rfl, rfl, trivial⟩ (fun w s => s)
   ·refine ro (ro (ro (rp (Pu.pickF rfl rfl) ?_)))
    exact hJ5 _ _ ⟨dAndF hc4, rfl, rfl, trivial⟩ (fun w s => s)
 ·intro hJ3
  refine RS.splitP 6 rfl (fun hc2 => ?_) (fun hc2 => ?_)
  ·refine rp (Pu.fieldAddr fd120_0 rfl) (rq (Qt.ldB 0 ty3 rfl rfl rfl) (rp (Pu.bin rfl rfl rfl) (rp (Pu.pickT rfl rfl) ?_)))
   exact hJ3 _ _ ⟨dAndT hc2, rfl, rfl, trivial⟩ (fun w s => s)
  ·refine ro (ro (ro (rp (Pu.pickF rfl rfl) ?_)))
   exact hJ3 _ _ ⟨dAndF hc2, rfl, rfl, trivial⟩ (fun w s => s)
theorem throngref8_on_walk (a0_g : Grd) (a1_b : Bld) (w : World) {v0 : Value} (h0 : R (hpOf w) a0_g.tiles [v0]) {r : Bool} (H : throngref8_on a0_g a1_b = some r) : Calls Tryz.prog 70 #[.agg #[.int .i64 a0_g.w, .int .i64 a0_g.h, v0], .agg #[.int .i64 a1_b.id, .int .i64 a1_b.owner, .int .i64 a1_b.x, .int .i64 a1_b.y, .int .i64 a1_b.w, .int .i64 a1_b.h]] w fun e w' => e = .returned (.bool r) ∧ Ext w w' := by
 have hm0 := R_max h0
 obtain ⟨p0, c0, rfl⟩ := R_form h0
 unfold throngref8_on at H
 refine T.enter (args := [_, _]) (S := Sat w []) Tryz.func70 rfl rfl (Sat.start w) ?_
 refine T.seq fun K1 hK1 => T.region (RS.solid (Sd.box (cs := [_, _, _]) rfl rfl) rfl rfl fun b1 => RS.solid (Sd.box (cs := [_, _, _, _, _, _]) rfl rfl) rfl rfl fun b2 => rA rfl (RS.nil (hK1 _ _ (cq [(2, _), (3, _)] ?_))))
 refine T.seq fun K2 hK2 => T.region (rp (Pu.fieldAddr fd120_2 rfl) (rq (Qt.ldB 1 ty3 rfl rfl rfl) (rp (Pu.bin rfl rfl rfl) (rM rfl ?_))))
 refine RS.joinV 4 12 (.bool (decide ((0 ≤ a1_b.x) ∧ (0 ≤ a1_b.y)))) [(2, _), (3, _)] ⟨rfl, rfl, trivial⟩ ?_ ?_
 ·refine rM rfl ?_
  refine RS.joinV 6 19 (.bool (decide (((0 ≤ a1_b.x) ∧ (0 ≤ a1_b.y)) ∧ (a1_b.x < a0_g.w)))) [(2, _), (3, _)] ⟨rfl, rfl, trivial⟩ ?_ ?_
  ·refine rM rfl ?_
   refine RS.joinV 6 26 (.bool (decide ((((0 ≤ a1_b.x) ∧ (0 ≤ a1_b.y)) ∧ (a1_b.x < a0_g.w)) ∧ (a1_b.y < a0_g.h)))) [(2, _), (3, _)] ⟨rfl, rfl, trivial⟩ ?_ ?_
   ·refine rM rfl ?_
    obtain ⟨g11, H⟩ := gdE H
    refine RS.joinV 9 36 (.bool (decide (((((0 ≤ a1_b.x) ∧ (0 ≤ a1_b.y)) ∧ (a1_b.x < a0_g.w)) ∧ (a1_b.y < a0_g.h)) ∧ (a1_b.w ≤ (a0_g.w - a1_b.x))))) [(2, _), (3, _)] ⟨rfl, rfl, trivial⟩ ?_ ?_
    ·refine rM rfl ?_
     obtain ⟨g14, H⟩ := gdE H
     refine RS.joinV 9 46 (.bool (decide ((((((0 ≤ a1_b.x) ∧ (0 ≤ a1_b.y)) ∧ (a1_b.x < a0_g.w)) ∧ (a1_b.y < a0_g.h)) ∧ (a1_b.w ≤ (a0_g.w - a1_b.x))) ∧ (a1_b.h ≤ (a0_g.h - a1_b.y))))) [] trivial ?_ ?_
     ·refine rA rfl (RS.nil (hK2 _ _ ?_))
      obtain rfl := sj H
      refine T.rt (Cont.ret1 rfl rfl fun w' s => ?_)
      exact ⟨rfl, s.ext⟩
     ·intro hJ13
      refine RS.splitP 37 rfl (fun hc12 => ?_) (fun hc12 => ?_)
      ·refine rp (Pu.fieldAddr fd120_5 rfl) (rq (Qt.ldB 1 ty3 rfl rfl rfl) (rp (Pu.fieldAddr fd36_1 rfl) (rq (Qt.ldB 0 ty3 rfl rfl rfl) (rp (Pu.fieldAddr fd120_3 rfl) (rq (Qt.ldB 1 ty3 rfl rfl rfl) (rp (Pu.subS rfl rfl (g14 hc12)) (rp (Pu.bin rfl rfl rfl) (rp (Pu.pickT rfl rfl) ?_))))))))
       exact hJ13 _ _ ⟨dAndT hc12, trivial⟩ (fun w s => s)
      ·refine ro (ro (ro (ro (ro (ro (ro (ro (rp (Pu.pickF rfl rfl) ?_))))))))
       exact hJ13 _ _ ⟨dAndF hc12, trivial⟩ (fun w s => s)
    ·intro hJ10
     refine RS.splitP 27 rfl (fun hc9 => ?_) (fun hc9 => ?_)
     ·refine rp (Pu.fieldAddr fd120_4 rfl) (rq (Qt.ldB 1 ty3 rfl rfl rfl) (rp (Pu.fieldAddr fd36_0 rfl) (rq (Qt.ldB 0 ty3 rfl rfl rfl) (rp (Pu.fieldAddr fd120_2 rfl) (rq (Qt.ldB 1 ty3 rfl rfl rfl) (rp (Pu.subS rfl rfl (g11 hc9)) (rp (Pu.bin rfl rfl rfl) (rp (Pu.pickT rfl rfl) ?_))))))))
      exact hJ10 _ _ ⟨dAndT hc9, rfl, rfl, trivial⟩ (fun w s => s)
     ·refine ro (ro (ro (ro (ro (ro (ro (ro (rp (Pu.pickF rfl rfl) ?_))))))))
      exact hJ10 _ _ ⟨dAndF hc9, rfl, rfl, trivial⟩ (fun w s => s)
   ·intro hJ8
    refine RS.splitP 20 rfl (fun hc7 => ?_) (fun hc7 => ?_)
    ·refine rp (Pu.fieldAddr fd120_3 rfl) (rq (Qt.ldB 1 ty3 rfl rfl rfl) (rp (Pu.fieldAddr fd36_1 rfl) (rq (Qt.ldB 0 ty3 rfl rfl rfl) (rp (Pu.bin rfl rfl rfl) (rp (Pu.pickT rfl rfl) ?_)))))
     exact hJ8 _ _ ⟨dAndT hc7, rfl, rfl, trivial⟩ (fun w s => s)
    ·refine ro (ro (ro (ro (ro (rp (Pu.pickF rfl rfl) ?_)))))
     exact hJ8 _ _ ⟨dAndF hc7, rfl, rfl, trivial⟩ (fun w s => s)
  ·intro hJ6
   refine RS.splitP 13 rfl (fun hc5 => ?_) (fun hc5 => ?_)
   ·refine rp (Pu.fieldAddr fd120_2 rfl) (rq (Qt.ldB 1 ty3 rfl rfl rfl) (rp (Pu.fieldAddr fd36_0 rfl) (rq (Qt.ldB 0 ty3 rfl rfl rfl) (rp (Pu.bin rfl rfl rfl) (rp (Pu.pickT rfl rfl) ?_)))))
    exact hJ6 _ _ ⟨dAndT hc5, rfl, rfl, trivial⟩ (fun w s => s)
   ·refine ro (ro (ro (ro (ro (rp (Pu.pickF rfl rfl) ?_)))))
    exact hJ6 _ _ ⟨dAndF hc5, rfl, rfl, trivial⟩ (fun w s => s)
 ·intro hJ4
  refine RS.splitP 8 rfl (fun hc3 => ?_) (fun hc3 => ?_)
  ·refine rp (Pu.fieldAddr fd120_3 rfl) (rq (Qt.ldB 1 ty3 rfl rfl rfl) (rp (Pu.bin rfl rfl rfl) (rp (Pu.pickT rfl rfl) ?_)))
   exact hJ4 _ _ ⟨dAndT hc3, rfl, rfl, trivial⟩ (fun w s => s)
  ·refine ro (ro (ro (rp (Pu.pickF rfl rfl) ?_)))
   exact hJ4 _ _ ⟨dAndF hc3, rfl, rfl, trivial⟩ (fun w s => s)
theorem throngref8_Has_walk (a0_g : Grd) (a1_b : Bld) (a2_t : Int) (w : World) {v0 : Value} (h0 : R (hpOf w) a0_g.tiles [v0]) {r : Bool} (H : throngref8_Has a0_g a1_b a2_t = some r) : Calls Tryz.prog 106 #[.agg #[.int .i64 a0_g.w, .int .i64 a0_g.h, v0], .agg #[.int .i64 a1_b.id, .int .i64 a1_b.owner, .int .i64 a1_b.x, .int .i64 a1_b.y, .int .i64 a1_b.w, .int .i64 a1_b.h], .int .i64 a2_t] w fun e w' => e = .returned (.bool r) ∧ Ext w w' := by
 have hm0 := R_max h0
 obtain ⟨p0, c0, rfl⟩ := R_form h0
 unfold throngref8_Has at H
 refine T.enter (args := [_, _, _]) (S := Sat w []) Tryz.func106 rfl rfl (Sat.start w) ?_
 refine T.seq fun K1 hK1 => T.region (RS.solid (Sd.box (cs := [_, _, _]) rfl rfl) rfl rfl fun b1 => RS.solid (Sd.box (cs := [_, _, _, _, _, _]) rfl rfl) rfl rfl fun b2 => rA rfl (RS.nil (hK1 _ _ (cq [(2, _), (3, _), (4, _)] ?_))))
 refine T.seq fun K2 hK2 => ?_
 refine T.drawn (fun _ => True) [(0, .pu), (1, .pu), (2, .rd), (3, .pu), (4, .pu), (5, .pu), (6, .rd), (7, .pu), (8, .pu), (9, .pu)] mixed (ClE.sat _ _) (by kernel_rfl) ?_
 refine dp rfl (Pu.move rfl) (dp rfl (Pu.fieldAddr fd36_0 rfl) (dq rfl (Qt.ldB 0 ty3 rfl rfl rfl) ?_))
 obtain ⟨g3, H⟩ := gdE H
 refine dp rfl (Pu.remN rfl rfl (and3 g3)) (dp rfl (Pu.move rfl) (dp rfl (Pu.fieldAddr fd36_0 rfl) (dq rfl (Qt.ldB 0 ty3 rfl rfl rfl) ?_)))
 obtain ⟨g4, H⟩ := gdE H
 refine dp rfl (Pu.quoN rfl rfl g4) (dp rfl (Pu.assign rfl) (dp rfl (Pu.assign rfl) (RD.nil (hK2 _ _ (cq [(4, _), (7, _), (8, _)] ?_)))))
 refine T.seq fun K3 hK3 => T.region (rM rfl (rp (Pu.fieldAddr fd120_2 rfl) (rq (Qt.ldB 1 ty3 rfl rfl rfl) (rp (Pu.bin rfl rfl rfl) (rM rfl ?_)))))
 obtain ⟨g7, H⟩ := gdE H
 refine RS.joinV 8 29 (.bool (decide ((a1_b.x ≤ (a2_t % a0_g.w)) ∧ ((a2_t % a0_g.w) < (a1_b.x + a1_b.w))))) [(4, _), (8, _)] ⟨rfl, rfl, trivial⟩ ?_ ?_
 ·refine rM rfl ?_
  refine RS.joinV 5 35 (.bool (decide (((a1_b.x ≤ (a2_t % a0_g.w)) ∧ ((a2_t % a0_g.w) < (a1_b.x + a1_b.w))) ∧ (a1_b.y ≤ (a2_t / a0_g.w))))) [(4, _), (8, _)] ⟨rfl, rfl, trivial⟩ ?_ ?_
  ·refine rM rfl ?_
   obtain ⟨g12, H⟩ := gdE H
   refine RS.joinV 8 44 (.bool (decide ((((a1_b.x ≤ (a2_t % a0_g.w)) ∧ ((a2_t % a0_g.w) < (a1_b.x + a1_b.w))) ∧ (a1_b.y ≤ (a2_t / a0_g.w))) ∧ ((a2_t / a0_g.w) < (a1_b.y + a1_b.h))))) [] trivial ?_ ?_
   ·refine rA rfl (RS.nil (hK3 _ _ ?_))
    obtain rfl := sj H
    refine T.rt (Cont.ret1 rfl rfl fun w' s => ?_)
    exact ⟨rfl, s.ext⟩
   ·intro hJ11
    refine RS.splitP 36 rfl (fun hc10 => ?_) (fun hc10 => ?_)
    ·refine rM rfl (rp (Pu.fieldAddr fd120_3 rfl) (rq (Qt.ldB 1 ty3 rfl rfl rfl) (rp (Pu.fieldAddr fd120_5 rfl) (rq (Qt.ldB 1 ty3 rfl rfl rfl) (rp (Pu.addS rfl rfl (g12 hc10)) (rp (Pu.bin rfl rfl rfl) (rp (Pu.pickT rfl rfl) ?_)))))))
     exact hJ11 _ _ ⟨dAndT hc10, trivial⟩ (fun w s => s)
    ·refine ro (ro (ro (ro (ro (ro (ro (rp (Pu.pickF rfl rfl) ?_)))))))
     exact hJ11 _ _ ⟨dAndF hc10, trivial⟩ (fun w s => s)
  ·intro hJ9
   refine RS.splitP 30 rfl (fun hc8 => ?_) (fun hc8 => ?_)
   ·refine rM rfl (rp (Pu.fieldAddr fd120_3 rfl) (rq (Qt.ldB 1 ty3 rfl rfl rfl) (rp (Pu.bin rfl rfl rfl) (rp (Pu.pickT rfl rfl) ?_))))
    exact hJ9 _ _ ⟨dAndT hc8, rfl, rfl, trivial⟩ (fun w s => s)
   ·refine ro (ro (ro (ro (rp (Pu.pickF rfl rfl) ?_))))
    exact hJ9 _ _ ⟨dAndF hc8, rfl, rfl, trivial⟩ (fun w s => s)
 ·intro hJ6
  refine RS.splitP 21 rfl (fun hc5 => ?_) (fun hc5 => ?_)
  ·refine rM rfl (rp (Pu.fieldAddr fd120_2 rfl) (rq (Qt.ldB 1 ty3 rfl rfl rfl) (rp (Pu.fieldAddr fd120_4 rfl) (rq (Qt.ldB 1 ty3 rfl rfl rfl) (rp (Pu.addS rfl rfl (g7 hc5)) (rp (Pu.bin rfl rfl rfl) (rp (Pu.pickT rfl rfl) ?_)))))))
   exact hJ6 _ _ ⟨dAndT hc5, rfl, rfl, trivial⟩ (fun w s => s)
  ·refine ro (ro (ro (ro (ro (ro (ro (rp (Pu.pickF rfl rfl) ?_)))))))
   exact hJ6 _ _ ⟨dAndF hc5, rfl, rfl, trivial⟩ (fun w s => s)
theorem throngref8_firm_walk (a0_g : Grd) (a1_b : Bld) (w : World) {v0 : Value} (h0 : R (hpOf w) a0_g.tiles [v0]) {r : Bool} (H : throngref8_firm a0_g a1_b = some r) : Calls Tryz.prog 71 #[.agg #[.int .i64 a0_g.w, .int .i64 a0_g.h, v0], .agg #[.int .i64 a1_b.id, .int .i64 a1_b.owner, .int .i64 a1_b.x, .int .i64 a1_b.y, .int .i64 a1_b.w, .int .i64 a1_b.h]] w fun e w' => e = .returned (.bool r) ∧ Ext w w' := by
 have hm0 := R_max h0
 obtain ⟨p0, c0, rfl⟩ := R_form h0
 unfold throngref8_firm at H
 refine T.enter (args := [_, _]) (S := Sat w []) Tryz.func71 rfl rfl (Sat.start w) ?_
 refine T.seq fun K1 hK1 => T.region (RS.solid (Sd.box (cs := [_, _, _]) rfl rfl) rfl rfl fun b1 => RS.solid (Sd.box (cs := [_, _, _, _, _, _]) rfl rfl) rfl rfl fun b2 => rA rfl (RS.nil (hK1 _ _ (cq [(2, _), (3, _)] ?_))))
 refine T.seq fun K2 hK2 => T.seq fun K3 hK3 => T.region (rA rfl (RS.nil (hK3 _ _ ?_)))
 refine T.joinE (σ := Unit) (γ := Unit) H Ex.go [] trivial (fun _ _ => []) (fun _ _ => Sat w [blk b1 [.int .i64 a0_g.w, .int .i64 a0_g.h, .slice p0 a0_g.tiles.length c0] 36, blk b2 [.int .i64 a1_b.id, .int .i64 a1_b.owner, .int .i64 a1_b.x, .int .i64 a1_b.y, .int .i64 a1_b.w, .int .i64 a1_b.h] 120]) ?_ ?_
 ·rintro ⟨⟩ ⟨⟩ H
  try dsimp only [Ex.then] at H
  refine Cont.conseq (fr' := []) ?_ trivial (fun _ s => s)
  refine id (hK2 _ _ ?_)
  refine T.seq fun K4 hK4 => T.region (rA rfl (RS.nil (hK4 _ _ ?_)))
  obtain rfl := sj H
  refine T.rt (Cont.ret1 rfl rfl fun w' s => ?_)
  exact ⟨rfl, s.ext⟩
 ·intro z3 hz3 HX3 hJ3
  refine T.block ?_
  refine T.loopA (γ := Unit) hz3 [(2, _), (3, _)] (fun v4 _ => [(5, .int .i64 v4)]) (fun v4 _ => Sat w [blk b1 [.int .i64 a0_g.w, .int .i64 a0_g.h, .slice p0 a0_g.tiles.length c0] 36, blk b2 [.int .i64 a1_b.id, .int .i64 a1_b.owner, .int .i64 a1_b.x, .int .i64 a1_b.y, .int .i64 a1_b.w, .int .i64 a1_b.h] 120]) () ⟨rfl, rfl, trivial⟩ ⟨rfl, trivial⟩ (fun w s => s) ?_
  rintro v4 ⟨⟩ y5 H hd3 KL3 hL3
  try dsimp only [Ex.then] at H
  refine cq [(5, _), (2, _), (3, _)] ?_
  refine T.seq fun K5 hK5 => T.seq fun K6 hK6 => T.region (rM rfl (rp (Pu.fieldAddr fd36_0 rfl) (rq (Qt.ldB 0 ty3 rfl rfl rfl) (rp (Pu.fieldAddr fd36_1 rfl) (rq (Qt.ldB 0 ty3 rfl rfl rfl) ?_)))))
  obtain ⟨g6, H⟩ := gdE H
  refine rp (Pu.mulS rfl rfl g6) (rp (Pu.bin rfl rfl rfl) (RS.nil (hK6 _ _ ?_)))
  refine T.condP rfl (fun hc7 => ?_) (fun hc7 => ?_)
  ·have H := ifT hc7 H
   refine T.skip (hK5 _ _ (cq [(2, _), (3, _), (5, _)] ?_))
   refine T.seq fun K7 hK7 => T.block (T.seq fun K8 hK8 => T.region (rq (Qt.ldBA (us := [_, _, _]) 0 ty36 rfl rfl rfl rfl) (rq (Qt.ldBA (us := [_, _, _, _, _, _]) 1 ty120 rfl rfl rfl rfl) (rM rfl ?_))))
   obtain ⟨x8, hx8, H⟩ := bindE H
   refine rq (Qt.call (vs := [.agg #[.int .i64 a0_g.w, .int .i64 a0_g.h, .slice p0 a0_g.tiles.length c0], .agg #[.int .i64 a1_b.id, .int .i64 a1_b.owner, .int .i64 a1_b.x, .int .i64 a1_b.y, .int .i64 a1_b.w, .int .i64 a1_b.h], .int .i64 v4]) ent106 rfl fun w s => throngref8_Has_walk a0_g a1_b v4 w ((Rd.base h0) w s) hx8) (rM rfl ?_)
   obtain ⟨g11, H⟩ := gdE H
   refine RS.joinV 7 26 (.bool (decide ((x8 = true) ∧ (¬ ((gi a0_g.tiles v4).toNat : Int) = 0)))) [(2, _), (3, _), (5, _)] ⟨rfl, rfl, rfl, trivial⟩ ?_ ?_
   ·refine rM rfl ?_
    obtain ⟨g14, H⟩ := gdE H
    refine RS.joinV 7 34 (.bool (decide (((x8 = true) ∧ (¬ ((gi a0_g.tiles v4).toNat : Int) = 0)) ∧ (¬ ((gi a0_g.tiles v4).toNat : Int) = 1)))) [(2, _), (3, _), (5, _)] ⟨rfl, rfl, rfl, trivial⟩ ?_ ?_
    ·refine RS.nil (hK8 _ _ ?_)
     refine T.condP rfl (fun hc15 => ?_) (fun hc15 => ?_)
     ·have H := ifT hc15 H
      refine cq [] ?_
      refine T.seq fun K9 hK9 => T.region (rA rfl (RS.nil (hK9 _ _ ?_)))
      obtain rfl := hd3 _ H
      have H := HX3
      obtain rfl := sj H
      refine T.rt (Cont.ret1 rfl rfl fun w' s => ?_)
      exact ⟨rfl, s.ext⟩
     ·have H := ifF hc15 H
      refine T.skip (hK7 _ _ ?_)
      refine T.region (rM rfl ?_)
      obtain ⟨g16, H⟩ := gdE H
      refine rp (Pu.addS rfl rfl g16) (rA rfl (RS.nil (hL3 _ _ (v4 + 1) () H ⟨rfl, rfl, trivial⟩ ⟨rfl, trivial⟩ (fun w s => s))))
    ·intro hJ13
     refine RS.splitP 27 rfl (fun hc12 => ?_) (fun hc12 => ?_)
     ·refine rp (Pu.fieldAddr fd36_2 rfl) (rq (Qt.ldB 0 ty34 rfl rfl rfl) (rM rfl ?_))
      obtain ⟨bl17, ol18, rfl⟩ := R_ptr h0 (ne_of_pos (pos_of (g14 hc12)))
      refine rp (Pu.indexSl sl34 rfl rfl (g14 hc12)) (rq (Qt.ld0 (α := UInt8) (Rd.base h0) ty5 rfl rfl (g14 hc12) (by rintro _ _ rfl; rfl)) (rp (Pu.bin rfl rfl rfl) (rp (Pu.pickT rfl rfl) ?_)))
      exact hJ13 _ _ ⟨dAndT hc12, rfl, rfl, rfl, trivial⟩ (fun w s => s)
     ·refine ro (ro (ro (ro (ro (ro (rp (Pu.pickF rfl rfl) ?_))))))
      exact hJ13 _ _ ⟨dAndF hc12, rfl, rfl, rfl, trivial⟩ (fun w s => s)
   ·intro hJ10
    refine RS.split 19 rfl (fun hc9 => ?_) (fun hc9 => ?_)
    ·refine rp (Pu.fieldAddr fd36_2 rfl) (rq (Qt.ldB 0 ty34 rfl rfl rfl) (rM rfl ?_))
     obtain ⟨bl19, ol20, rfl⟩ := R_ptr h0 (ne_of_pos (pos_of (g11 hc9)))
     refine rp (Pu.indexSl sl34 rfl rfl (g11 hc9)) (rq (Qt.ld0 (α := UInt8) (Rd.base h0) ty5 rfl rfl (g11 hc9) (by rintro _ _ rfl; rfl)) (rp (Pu.bin rfl rfl rfl) (rp (Pu.pickT rfl rfl) ?_)))
     exact hJ10 _ _ ⟨dAndT hc9, rfl, rfl, rfl, trivial⟩ (fun w s => s)
    ·refine ro (ro (ro (ro (ro (ro (rp (Pu.pickF rfl rfl) ?_))))))
     exact hJ10 _ _ ⟨dAndF (bne_of hc9), rfl, rfl, rfl, trivial⟩ (fun w s => s)
  ·have H := ifF hc7 H
   obtain rfl := hd3 _ H
   refine T.xt (hJ3 _ _ () () HX3 trivial trivial (fun w s => s))
theorem throngref8_meet_walk (a0_a : Bld) (a1_b : Bld) (w : World) {r : Bool} (H : throngref8_meet a0_a a1_b = some r) : Calls Tryz.prog 72 #[.agg #[.int .i64 a0_a.id, .int .i64 a0_a.owner, .int .i64 a0_a.x, .int .i64 a0_a.y, .int .i64 a0_a.w, .int .i64 a0_a.h], .agg #[.int .i64 a1_b.id, .int .i64 a1_b.owner, .int .i64 a1_b.x, .int .i64 a1_b.y, .int .i64 a1_b.w, .int .i64 a1_b.h]] w fun e w' => e = .returned (.bool r) ∧ Ext w w' := by
 unfold throngref8_meet at H
 refine T.enter (args := [_, _]) (S := Sat w []) Tryz.func72 rfl rfl (Sat.start w) ?_
 refine T.seq fun K1 hK1 => T.region (RS.solid (Sd.box (cs := [_, _, _, _, _, _]) rfl rfl) rfl rfl fun b1 => RS.solid (Sd.box (cs := [_, _, _, _, _, _]) rfl rfl) rfl rfl fun b2 => rA rfl (RS.nil (hK1 _ _ (cq [(2, _), (3, _)] ?_))))
 refine T.seq fun K2 hK2 => T.region (rp (Pu.fieldAddr fd120_2 rfl) (rq (Qt.ldB 0 ty3 rfl rfl rfl) (rp (Pu.fieldAddr fd120_2 rfl) (rq (Qt.ldB 1 ty3 rfl rfl rfl) (rp (Pu.fieldAddr fd120_4 rfl) (rq (Qt.ldB 1 ty3 rfl rfl rfl) ?_))))))
 obtain ⟨g3, H⟩ := gdE H
 refine rp (Pu.addS rfl rfl g3) (rp (Pu.bin rfl rfl rfl) (rM rfl ?_))
 obtain ⟨g6, H⟩ := gdE H
 refine RS.joinV 9 22 (.bool (decide ((a0_a.x < (a1_b.x + a1_b.w)) ∧ (a1_b.x < (a0_a.x + a0_a.w))))) [(2, _), (3, _)] ⟨rfl, rfl, trivial⟩ ?_ ?_
 ·refine rM rfl ?_
  obtain ⟨g9, H⟩ := gdE H
  refine RS.joinV 9 32 (.bool (decide (((a0_a.x < (a1_b.x + a1_b.w)) ∧ (a1_b.x < (a0_a.x + a0_a.w))) ∧ (a0_a.y < (a1_b.y + a1_b.h))))) [(2, _), (3, _)] ⟨rfl, rfl, trivial⟩ ?_ ?_
  ·refine rM rfl ?_
   obtain ⟨g12, H⟩ := gdE H
   refine RS.joinV 9 42 (.bool (decide ((((a0_a.x < (a1_b.x + a1_b.w)) ∧ (a1_b.x < (a0_a.x + a0_a.w))) ∧ (a0_a.y < (a1_b.y + a1_b.h))) ∧ (a1_b.y < (a0_a.y + a0_a.h))))) [] trivial ?_ ?_
   ·refine rA rfl (RS.nil (hK2 _ _ ?_))
    obtain rfl := sj H
    refine T.rt (Cont.ret1 rfl rfl fun w' s => ?_)
    exact ⟨rfl, s.ext⟩
   ·intro hJ11
    refine RS.splitP 33 rfl (fun hc10 => ?_) (fun hc10 => ?_)
    ·refine rp (Pu.fieldAddr fd120_3 rfl) (rq (Qt.ldB 1 ty3 rfl rfl rfl) (rp (Pu.fieldAddr fd120_3 rfl) (rq (Qt.ldB 0 ty3 rfl rfl rfl) (rp (Pu.fieldAddr fd120_5 rfl) (rq (Qt.ldB 0 ty3 rfl rfl rfl) (rp (Pu.addS rfl rfl (g12 hc10)) (rp (Pu.bin rfl rfl rfl) (rp (Pu.pickT rfl rfl) ?_))))))))
     exact hJ11 _ _ ⟨dAndT hc10, trivial⟩ (fun w s => s)
    ·refine ro (ro (ro (ro (ro (ro (ro (ro (rp (Pu.pickF rfl rfl) ?_))))))))
     exact hJ11 _ _ ⟨dAndF hc10, trivial⟩ (fun w s => s)
  ·intro hJ8
   refine RS.splitP 23 rfl (fun hc7 => ?_) (fun hc7 => ?_)
   ·refine rp (Pu.fieldAddr fd120_3 rfl) (rq (Qt.ldB 0 ty3 rfl rfl rfl) (rp (Pu.fieldAddr fd120_3 rfl) (rq (Qt.ldB 1 ty3 rfl rfl rfl) (rp (Pu.fieldAddr fd120_5 rfl) (rq (Qt.ldB 1 ty3 rfl rfl rfl) (rp (Pu.addS rfl rfl (g9 hc7)) (rp (Pu.bin rfl rfl rfl) (rp (Pu.pickT rfl rfl) ?_))))))))
    exact hJ8 _ _ ⟨dAndT hc7, rfl, rfl, trivial⟩ (fun w s => s)
   ·refine ro (ro (ro (ro (ro (ro (ro (ro (rp (Pu.pickF rfl rfl) ?_))))))))
    exact hJ8 _ _ ⟨dAndF hc7, rfl, rfl, trivial⟩ (fun w s => s)
 ·intro hJ5
  refine RS.splitP 13 rfl (fun hc4 => ?_) (fun hc4 => ?_)
  ·refine rp (Pu.fieldAddr fd120_2 rfl) (rq (Qt.ldB 1 ty3 rfl rfl rfl) (rp (Pu.fieldAddr fd120_2 rfl) (rq (Qt.ldB 0 ty3 rfl rfl rfl) (rp (Pu.fieldAddr fd120_4 rfl) (rq (Qt.ldB 0 ty3 rfl rfl rfl) (rp (Pu.addS rfl rfl (g6 hc4)) (rp (Pu.bin rfl rfl rfl) (rp (Pu.pickT rfl rfl) ?_))))))))
   exact hJ5 _ _ ⟨dAndT hc4, rfl, rfl, trivial⟩ (fun w s => s)
  ·refine ro (ro (ro (ro (ro (ro (ro (ro (rp (Pu.pickF rfl rfl) ?_))))))))
   exact hJ5 _ _ ⟨dAndF hc4, rfl, rfl, trivial⟩ (fun w s => s)
theorem throngref8_IDs_walk (a0_l : List Bld) (w : World) {v0 : Value} (h0 : R (hpOf w) a0_l [v0]) {r : Bool} (H : throngref8_IDs a0_l = some r) : Calls Tryz.prog 68 #[v0] w fun e w' => e = .returned (.bool r) ∧ Ext w w' := by
 have hm0 := R_max h0
 obtain ⟨p0, c0, rfl⟩ := R_form h0
 unfold throngref8_IDs at H
 refine T.enter (args := [_]) (S := Sat w []) Tryz.func68 rfl rfl (Sat.start w) ?_
 refine T.seq fun K1 hK1 => T.region (rA rfl (RS.nil (hK1 _ _ ?_)))
 refine T.seq fun K2 hK2 => T.seq fun K3 hK3 => T.region (rA rfl (RS.nil (hK3 _ _ ?_)))
 refine T.joinE (σ := Unit) (γ := Unit) H Ex.go [] trivial (fun _ _ => []) (fun _ _ => Sat w []) ?_ ?_
 ·rintro ⟨⟩ ⟨⟩ H
  try dsimp only [Ex.then] at H
  refine Cont.conseq (fr' := []) ?_ trivial (fun _ s => s)
  refine id (hK2 _ _ ?_)
  refine T.seq fun K4 hK4 => T.region (rA rfl (RS.nil (hK4 _ _ ?_)))
  obtain rfl := sj H
  refine T.rt (Cont.ret1 rfl rfl fun w' s => ?_)
  exact ⟨rfl, s.ext⟩
 ·intro z1 hz1 HX1 hJ1
  refine T.block ?_
  refine T.loopA (γ := Unit) hz1 [(0, _)] (fun v2 _ => [(3, .int .i64 v2)]) (fun v2 _ => Sat w []) () ⟨rfl, trivial⟩ ⟨rfl, trivial⟩ (fun w s => s) ?_
  rintro v2 ⟨⟩ y3 H hd1 KL1 hL1
  try dsimp only [Ex.then] at H
  refine cq [(3, _), (0, _)] ?_
  refine T.seq fun K5 hK5 => T.seq fun K6 hK6 => T.region (rM rfl (rM rfl (rp (Pu.lenSl sl37 rfl) (rp (Pu.bin rfl rfl rfl) (RS.nil (hK6 _ _ ?_))))))
  refine T.condP rfl (fun hc4 => ?_) (fun hc4 => ?_)
  ·have H := ifT hc4 H
   refine T.skip (hK5 _ _ (cq [(0, _), (3, _)] ?_))
   refine T.seq fun K7 hK7 => T.block (T.seq fun K8 hK8 => ?_)
   refine T.drawn (fun _ => True) [(0, .pu), (1, .pu), (2, .pu), (3, .pu), (4, .rd), (5, .pu), (6, .pu), (7, .pu), (8, .pu), (9, .pu), (10, .rd), (11, .pu)] mixed (ClE.sat _ _) (by kernel_rfl) ?_
   refine dp rfl (Pu.move rfl) (dp rfl (Pu.move rfl) ?_)
   obtain ⟨g5, H⟩ := gdE H
   obtain ⟨bl6, ol7, rfl⟩ := R_ptr h0 (ne_of_pos (pos_of g5))
   refine dp rfl (Pu.indexSl sl37 rfl rfl g5) (dp rfl (Pu.fieldAddr fd120_0 rfl) (dq rfl (Qt.ldF (α := Bld) (Rd.base h0) ty3 rfl rfl g5 (by rintro _ _ rfl; rfl)) (dp rfl (Pu.move rfl) (dp rfl (Pu.move rfl) ?_))))
   obtain ⟨g8, H⟩ := gdE H
   refine dp rfl (Pu.subS rfl rfl g8) ?_
   obtain ⟨g9, H⟩ := gdE H
   refine dp rfl (Pu.indexSl sl37 rfl rfl g9) (dp rfl (Pu.fieldAddr fd120_0 rfl) (dq rfl (Qt.ldF (α := Bld) (Rd.base h0) ty3 rfl rfl g9 (by rintro _ _ rfl; rfl)) (dp rfl (Pu.bin rfl rfl rfl) (RD.nil (hK8 _ _ ?_)))))
   refine T.condP rfl (fun hc10 => ?_) (fun hc10 => ?_)
   ·have H := ifT hc10 H
    refine cq [] ?_
    refine T.seq fun K9 hK9 => T.region (rA rfl (RS.nil (hK9 _ _ ?_)))
    obtain rfl := hd1 _ H
    have H := HX1
    obtain rfl := sj H
    refine T.rt (Cont.ret1 rfl rfl fun w' s => ?_)
    exact ⟨rfl, s.ext⟩
   ·have H := ifF hc10 H
    refine T.skip (hK7 _ _ (cq [(0, _), (3, _)] ?_))
    refine T.region (rM rfl ?_)
    obtain ⟨g11, H⟩ := gdE H
    refine rp (Pu.addS rfl rfl g11) (rA rfl (RS.nil (hL1 _ _ (v2 + 1) () H ⟨rfl, trivial⟩ ⟨rfl, trivial⟩ (fun w s => s))))
  ·have H := ifF hc4 H
   obtain rfl := hd1 _ H
   refine T.xt (hJ1 _ _ () () HX1 trivial trivial (fun w s => s))
theorem throngref8_May_walk (a0_g : Grd) (a1_l : List Bld) (w : World) {v0 v1 : Value} (h0 : R (hpOf w) a0_g.tiles [v0]) (h1 : R (hpOf w) a1_l [v1]) {r : Bool} (H : throngref8_May a0_g a1_l = some r) : Calls Tryz.prog 36 #[.agg #[.int .i64 a0_g.w, .int .i64 a0_g.h, v0], v1] w fun e w' => e = .returned (.bool r) ∧ Ext w w' := by
 have hm0 := R_max h0
 obtain ⟨p0, c0, rfl⟩ := R_form h0
 have hm1 := R_max h1
 obtain ⟨p1, c1, rfl⟩ := R_form h1
 unfold throngref8_May at H
 refine T.enter (args := [_, _]) (S := Sat w []) Tryz.func36 rfl rfl (Sat.start w) ?_
 refine T.seq fun K1 hK1 => T.region (RS.solid (Sd.box (cs := [_, _, _]) rfl rfl) rfl rfl fun b1 => rA rfl (RS.nil (hK1 _ _ ?_)))
 refine T.seq fun K2 hK2 => T.seq fun K3 hK3 => T.region (rq (Qt.ldBA (us := [_, _, _]) 0 ty36 rfl rfl rfl rfl) ?_)
 obtain ⟨x2, hx2, H⟩ := bindE H
 refine rq (Qt.call (vs := [.agg #[.int .i64 a0_g.w, .int .i64 a0_g.h, .slice p0 a0_g.tiles.length c0]]) ent67 rfl fun w s => throngref5_Ground_walk a0_g w ((Rd.base h0) w s) hx2) (rp (Pu.not rfl) (rM rfl ?_))
 refine RS.joinV 4 14 (.bool (decide (((!x2) = true) ∨ (256 < (a1_l.length : Int))))) [(1, _), (2, _)] ⟨rfl, rfl, trivial⟩ ?_ ?_
 ·refine rM rfl ?_
  refine RS.joinB H 4 19 (fun b7 => .bool b7) [(1, _), (2, _)] ⟨rfl, rfl, trivial⟩ ?_ ?_
  ·intro b7 H
   refine RS.nil (hK3 _ _ ?_)
   refine T.cond rfl (fun hc8 => ?_) (fun hc8 => ?_)
   ·have H := ifT hc8 H
    refine cq [] ?_
    refine T.seq fun K4 hK4 => T.region (rA rfl (RS.nil (hK4 _ _ ?_)))
    obtain rfl := sj H
    refine T.rt (Cont.ret1 rfl rfl fun w' s => ?_)
    exact ⟨rfl, s.ext⟩
   ·have H := ifB hc8 H
    refine T.skip (hK2 _ _ ?_)
    refine T.seq fun K5 hK5 => T.seq fun K6 hK6 => T.region (rA rfl (RS.nil (hK6 _ _ ?_)))
    refine T.joinE (σ := Unit) (γ := Unit) H Ex.go [] trivial (fun _ _ => []) (fun _ _ => Sat w [blk b1 [.int .i64 a0_g.w, .int .i64 a0_g.h, .slice p0 a0_g.tiles.length c0] 36]) ?_ ?_
    ·rintro ⟨⟩ ⟨⟩ H
     try dsimp only [Ex.then] at H
     refine Cont.conseq (fr' := []) ?_ trivial (fun _ s => s)
     refine id (hK5 _ _ ?_)
     refine T.seq fun K7 hK7 => T.region (rA rfl (RS.nil (hK7 _ _ ?_)))
     obtain rfl := sj H
     refine T.rt (Cont.ret1 rfl rfl fun w' s => ?_)
     exact ⟨rfl, s.ext⟩
    ·intro z9 hz9 HX9 hJ9
     refine T.block ?_
     refine T.loopA (γ := Unit) hz9 [(1, _), (2, _)] (fun v10 _ => [(5, .int .i64 v10)]) (fun v10 _ => Sat w [blk b1 [.int .i64 a0_g.w, .int .i64 a0_g.h, .slice p0 a0_g.tiles.length c0] 36]) () ⟨rfl, rfl, trivial⟩ ⟨rfl, trivial⟩ (fun w s => s) ?_
     rintro v10 ⟨⟩ y11 H hd9 KL9 hL9
     try dsimp only [Ex.then] at H
     refine cq [(5, _), (1, _), (2, _)] ?_
     refine T.seq fun K8 hK8 => T.seq fun K9 hK9 => T.region (rM rfl (rM rfl (rp (Pu.lenSl sl37 rfl) (rp (Pu.bin rfl rfl rfl) (RS.nil (hK9 _ _ ?_))))))
     refine T.condP rfl (fun hc12 => ?_) (fun hc12 => ?_)
     ·have H := ifT hc12 H
      refine T.skip (hK8 _ _ (cq [(1, _), (2, _), (5, _)] ?_))
      refine T.seq fun K10 hK10 => T.block (T.seq fun K11 hK11 => T.seq fun K12 hK12 => ?_)
      refine T.drawn (fun _ => True) [(0, .pu), (1, .pu), (2, .pu), (3, .rd), (4, .rd), (5, .pu), (6, .pu), (7, .rd), (8, .pu), (9, .pu), (10, .pu), (11, .rd), (12, .rd), (13, .pu), (14, .pu), (15, .pu), (16, .rd), (17, .pu), (18, .pu), (19, .pu), (20, .rd), (21, .rd), (22, .pu), (23, .pu)] mixed (ClE.sat _ _) (by kernel_rfl) ?_
      refine dp rfl (Pu.move rfl) (dp rfl (Pu.move rfl) ?_)
      obtain ⟨g13, H⟩ := gdE H
      obtain ⟨bl14, ol15, rfl⟩ := R_ptr h1 (ne_of_pos (pos_of g13))
      refine dp rfl (Pu.indexSl sl37 rfl rfl g13) (dq rfl (Qt.ldW (α := Bld) (cs := [_, _, _, _, _, _]) (Rd.base h1) ty120 rfl rfl g13 rfl (by rintro _ _ rfl; rfl)) ?_)
      obtain ⟨x16, hx16, H⟩ := bindE H
      refine dq rfl (Qt.call (vs := [.agg #[.int .i64 ((gi a1_l v10).id), .int .i64 ((gi a1_l v10).owner), .int .i64 ((gi a1_l v10).x), .int .i64 ((gi a1_l v10).y), .int .i64 ((gi a1_l v10).w), .int .i64 ((gi a1_l v10).h)]]) ent69 rfl fun w s => throngref8_Sides_walk (gi a1_l v10) w  hx16) (dp rfl (Pu.not rfl) (dp rfl (Pu.move rfl) ?_))
      refine RD.joinB H 8 40 (fun b19 => .bool b19) [(1, _), (2, _), (5, _)] ⟨rfl, rfl, rfl, trivial⟩ ?_ ?_
      ·intro b19 H
       refine dp rfl (Pu.move rfl) ?_
       refine RD.joinB H 8 49 (fun b22 => .bool b22) [(1, _), (2, _), (5, _)] ⟨rfl, rfl, rfl, trivial⟩ ?_ ?_
       ·intro b22 H
        refine RD.nil (hK12 _ _ ?_)
        refine T.cond rfl (fun hc23 => ?_) (fun hc23 => ?_)
        ·have H := ifT hc23 H
         refine cq [] ?_
         refine T.seq fun K13 hK13 => T.region (rA rfl (RS.nil (hK13 _ _ ?_)))
         obtain rfl := hd9 _ H
         have H := HX9
         obtain rfl := sj H
         refine T.rt (Cont.ret1 rfl rfl fun w' s => ?_)
         exact ⟨rfl, s.ext⟩
        ·have H := ifB hc23 H
         refine T.skip (hK11 _ _ ?_)
         refine T.seq fun K14 hK14 => T.region (rA rfl (RS.nil (hK14 _ _ ?_)))
         refine T.joinE (σ := Unit) (γ := Unit) H Ex.go [(1, _), (2, _), (5, _)] ⟨rfl, rfl, rfl, trivial⟩ (fun _ _ => []) (fun _ _ => Sat w [blk b1 [.int .i64 a0_g.w, .int .i64 a0_g.h, .slice p0 a0_g.tiles.length c0] 36]) ?_ ?_
         ·rintro ⟨⟩ ⟨⟩ H
          try dsimp only [Ex.then] at H
          refine Cont.conseq (fr' := [(1, _), (2, _), (5, _)]) ?_ ⟨rfl, rfl, rfl, trivial⟩ (fun _ s => s)
          refine id (hK10 _ _ ?_)
          refine T.region (rM rfl ?_)
          obtain ⟨g25, H⟩ := gdE H
          refine rp (Pu.addS rfl rfl g25) (rA rfl (RS.nil (hL9 _ _ (v10 + 1) () H ⟨rfl, rfl, trivial⟩ ⟨rfl, trivial⟩ (fun w s => s))))
         ·intro z24 hz24 HX24 hJ24
          refine T.block ?_
          refine T.loopA (γ := Unit) hz24 [(1, _), (2, _), (5, _)] (fun v26 _ => [(6, .int .i64 v26)]) (fun v26 _ => Sat w [blk b1 [.int .i64 a0_g.w, .int .i64 a0_g.h, .slice p0 a0_g.tiles.length c0] 36]) () ⟨rfl, rfl, rfl, trivial⟩ ⟨rfl, trivial⟩ (fun w s => s) ?_
          rintro v26 ⟨⟩ y27 H hd24 KL24 hL24
          try dsimp only [Ex.then] at H
          refine cq [(6, _), (1, _), (2, _), (5, _)] ?_
          refine T.seq fun K15 hK15 => T.seq fun K16 hK16 => T.region (rM rfl (rM rfl (rp (Pu.bin rfl rfl rfl) (RS.nil (hK16 _ _ ?_)))))
          refine T.condP rfl (fun hc28 => ?_) (fun hc28 => ?_)
          ·have H := ifT hc28 H
           refine T.skip (hK15 _ _ (cq [(1, _), (2, _), (5, _), (6, _)] ?_))
           refine T.seq fun K17 hK17 => T.block (T.seq fun K18 hK18 => ?_)
           refine T.drawn (fun _ => True) [(0, .pu), (1, .pu), (2, .pu), (3, .rd), (4, .pu), (5, .pu), (6, .pu), (7, .rd), (8, .rd)] mixed (ClE.sat _ _) (by kernel_rfl) ?_
           refine dp rfl (Pu.move rfl) (dp rfl (Pu.move rfl) ?_)
           obtain ⟨g29, H⟩ := gdE H
           refine dp rfl (Pu.indexSl sl37 rfl rfl g29) (dq rfl (Qt.ldW (α := Bld) (cs := [_, _, _, _, _, _]) (Rd.base h1) ty120 rfl rfl g29 rfl (by rintro _ _ rfl; rfl)) (dp rfl (Pu.move rfl) (dp rfl (Pu.move rfl) ?_)))
           obtain ⟨g30, H⟩ := gdE H
           refine dp rfl (Pu.indexSl sl37 rfl rfl g30) (dq rfl (Qt.ldW (α := Bld) (cs := [_, _, _, _, _, _]) (Rd.base h1) ty120 rfl rfl g30 rfl (by rintro _ _ rfl; rfl)) ?_)
           obtain ⟨x31, hx31, H⟩ := bindE H
           refine dq rfl (Qt.call (vs := [.agg #[.int .i64 ((gi a1_l v10).id), .int .i64 ((gi a1_l v10).owner), .int .i64 ((gi a1_l v10).x), .int .i64 ((gi a1_l v10).y), .int .i64 ((gi a1_l v10).w), .int .i64 ((gi a1_l v10).h)], .agg #[.int .i64 ((gi a1_l v26).id), .int .i64 ((gi a1_l v26).owner), .int .i64 ((gi a1_l v26).x), .int .i64 ((gi a1_l v26).y), .int .i64 ((gi a1_l v26).w), .int .i64 ((gi a1_l v26).h)]]) ent72 rfl fun w s => throngref8_meet_walk (gi a1_l v10) (gi a1_l v26) w  hx31) (RD.nil (hK18 _ _ ?_))
           refine T.cond rfl (fun hc32 => ?_) (fun hc32 => ?_)
           ·have H := ifT hc32 H
            refine cq [] ?_
            refine T.seq fun K19 hK19 => T.region (rA rfl (RS.nil (hK19 _ _ ?_)))
            obtain rfl := hd24 _ H
            have H := HX24
            obtain rfl := hd9 _ H
            have H := HX9
            obtain rfl := sj H
            refine T.rt (Cont.ret1 rfl rfl fun w' s => ?_)
            exact ⟨rfl, s.ext⟩
           ·have H := ifB hc32 H
            refine T.skip (hK17 _ _ (cq [(1, _), (2, _), (5, _), (6, _)] ?_))
            refine T.region (rM rfl ?_)
            obtain ⟨g33, H⟩ := gdE H
            refine rp (Pu.addS rfl rfl g33) (rA rfl (RS.nil (hL24 _ _ (v26 + 1) () H ⟨rfl, rfl, rfl, trivial⟩ ⟨rfl, trivial⟩ (fun w s => s))))
          ·have H := ifF hc28 H
           obtain rfl := hd24 _ H
           refine T.xt (hJ24 _ _ () () HX24 ⟨rfl, rfl, rfl, trivial⟩ trivial (fun w s => s))
       ·intro z34 H hJ21
        refine RD.split 41 rfl (fun hc20 => ?_) (fun hc20 => ?_)
        ·have H := ifT hc20 H
         refine dn rfl (dn rfl (dn rfl (dn rfl (dn rfl (dn rfl (dn rfl (dp rfl (Pu.pickT rfl rfl) ?_)))))))
         obtain rfl := sj H
         exact hJ21 _ ⟨rfl, rfl, rfl, rfl, trivial⟩
        ·have H := ifB hc20 H
         refine dq rfl (Qt.ldBA (us := [_, _, _]) 0 ty36 rfl rfl rfl rfl) (dp rfl (Pu.move rfl) (dp rfl (Pu.move rfl) ?_))
         obtain ⟨g35, H⟩ := gdE H
         refine dp rfl (Pu.indexSl sl37 rfl rfl g35) (dq rfl (Qt.ldW (α := Bld) (cs := [_, _, _, _, _, _]) (Rd.base h1) ty120 rfl rfl g35 rfl (by rintro _ _ rfl; rfl)) ?_)
         obtain ⟨x36, hx36, H⟩ := bindE H
         refine dq rfl (Qt.call (vs := [.agg #[.int .i64 a0_g.w, .int .i64 a0_g.h, .slice p0 a0_g.tiles.length c0], .agg #[.int .i64 ((gi a1_l v10).id), .int .i64 ((gi a1_l v10).owner), .int .i64 ((gi a1_l v10).x), .int .i64 ((gi a1_l v10).y), .int .i64 ((gi a1_l v10).w), .int .i64 ((gi a1_l v10).h)]]) ent71 rfl fun w s => throngref8_firm_walk a0_g (gi a1_l v10) w ((Rd.base h0) w s) hx36) (dp rfl (Pu.not rfl) (dp rfl (Pu.pickF rfl rfl) ?_))
         obtain rfl := sj H
         exact hJ21 _ ⟨rfl, rfl, rfl, rfl, trivial⟩
      ·intro z37 H hJ18
       refine RD.split 32 rfl (fun hc17 => ?_) (fun hc17 => ?_)
       ·have H := ifT hc17 H
        refine dn rfl (dn rfl (dn rfl (dn rfl (dn rfl (dn rfl (dn rfl (dp rfl (Pu.pickT rfl rfl) ?_)))))))
        obtain rfl := sj H
        exact hJ18 _ ⟨rfl, rfl, rfl, rfl, trivial⟩
       ·have H := ifB hc17 H
        refine dq rfl (Qt.ldBA (us := [_, _, _]) 0 ty36 rfl rfl rfl rfl) (dp rfl (Pu.move rfl) (dp rfl (Pu.move rfl) ?_))
        obtain ⟨g38, H⟩ := gdE H
        refine dp rfl (Pu.indexSl sl37 rfl rfl g38) (dq rfl (Qt.ldW (α := Bld) (cs := [_, _, _, _, _, _]) (Rd.base h1) ty120 rfl rfl g38 rfl (by rintro _ _ rfl; rfl)) ?_)
        obtain ⟨x39, hx39, H⟩ := bindE H
        refine dq rfl (Qt.call (vs := [.agg #[.int .i64 a0_g.w, .int .i64 a0_g.h, .slice p0 a0_g.tiles.length c0], .agg #[.int .i64 ((gi a1_l v10).id), .int .i64 ((gi a1_l v10).owner), .int .i64 ((gi a1_l v10).x), .int .i64 ((gi a1_l v10).y), .int .i64 ((gi a1_l v10).w), .int .i64 ((gi a1_l v10).h)]]) ent70 rfl fun w s => throngref8_on_walk a0_g (gi a1_l v10) w ((Rd.base h0) w s) hx39) (dp rfl (Pu.not rfl) (dp rfl (Pu.pickF rfl rfl) ?_))
        obtain rfl := sj H
        exact hJ18 _ ⟨rfl, rfl, rfl, rfl, trivial⟩
     ·have H := ifF hc12 H
      obtain rfl := hd9 _ H
      refine T.xt (hJ9 _ _ () () HX9 trivial trivial (fun w s => s))
  ·intro z40 H hJ6
   refine RS.splitP 15 rfl (fun hc5 => ?_) (fun hc5 => ?_)
   ·have H := ifT hc5 H
    refine ro (ro (ro (rp (Pu.pickT rfl rfl) ?_)))
    obtain rfl := sj H
    exact hJ6 _ _ ⟨rfl, rfl, rfl, trivial⟩ (fun w s => s)
   ·have H := ifF hc5 H
    refine rM rfl ?_
    obtain ⟨x41, hx41, H⟩ := bindE H
    refine rq (Qt.call (vs := [.slice p1 a1_l.length c1]) ent68 rfl fun w s => throngref8_IDs_walk a1_l w ((Rd.base h1) w s) hx41) (rp (Pu.not rfl) (rp (Pu.pickF rfl rfl) ?_))
    obtain rfl := sj H
    exact hJ6 _ _ ⟨rfl, rfl, rfl, trivial⟩ (fun w s => s)
 ·intro hJ4
  refine RS.split 10 rfl (fun hc3 => ?_) (fun hc3 => ?_)
  ·refine ro (ro (ro (rp (Pu.pickT rfl rfl) ?_)))
   exact hJ4 _ _ ⟨dOrT hc3, rfl, rfl, trivial⟩ (fun w s => s)
  ·refine rM rfl (rp (Pu.lenSl sl37 rfl) (rp (Pu.bin rfl rfl rfl) (rp (Pu.pickF rfl rfl) ?_)))
   exact hJ4 _ _ ⟨dOrF (bne_of hc3), rfl, rfl, trivial⟩ (fun w s => s)
end Go.Proofs.YthdbofgcckjopaaGreat
