/-
  Walks of what routes are made of.
-/
import Derived.Test.YthdbofgcckjopaaGreatRows
import Derived.Test.YthdbofgcckjopaaGreatW3
import Derived.Test.YthdbofgcckjopaaGreatRG
import Derived.Test.YthdbofgcckjopaaGreatFI
import Derived.Test.YthdbofgcckjopaaGreatFK
set_option linter.unusedVariables false
set_option linter.unusedSimpArgs false
set_option maxRecDepth 20000
set_option maxHeartbeats 4000000
namespace Go.Proofs.YthdbofgcckjopaaGreat
open Go.Vg
open Enc (R)
theorem ent100 : Ent Tryz.prog 100 := ⟨_, _, Tryz.func100, by kernel_rfl, rfl⟩
theorem ent101 : Ent Tryz.prog 101 := ⟨_, _, Tryz.func101, by kernel_rfl, rfl⟩
theorem ent120 : Ent Tryz.prog 120 := ⟨_, _, Tryz.func120, by kernel_rfl, rfl⟩
theorem ent124 : Ent Tryz.prog 124 := ⟨_, _, Tryz.func124, by kernel_rfl, rfl⟩
theorem ent61 : Ent Tryz.prog 61 := ⟨_, _, Tryz.func61, by kernel_rfl, rfl⟩
theorem ent62 : Ent Tryz.prog 62 := ⟨_, _, Tryz.func62, by kernel_rfl, rfl⟩
theorem ent87 : Ent Tryz.prog 87 := ⟨_, _, Tryz.func87, by kernel_rfl, rfl⟩
theorem ent97 : Ent Tryz.prog 97 := ⟨_, _, Tryz.func97, by kernel_rfl, rfl⟩
theorem ent98 : Ent Tryz.prog 98 := ⟨_, _, Tryz.func98, by kernel_rfl, rfl⟩
theorem fd105_0 : fdOff Tryz.prog 105 0 = some 0 := by kernel_rfl
theorem fd105_1 : fdOff Tryz.prog 105 1 = some 1 := by kernel_rfl
theorem fd153_0 : fdOff Tryz.prog 153 0 = some 0 := by kernel_rfl
theorem fd153_1 : fdOff Tryz.prog 153 1 = some 1 := by kernel_rfl
theorem fd67_0 : fdOff Tryz.prog 67 0 = some 0 := by kernel_rfl
theorem fd67_1 : fdOff Tryz.prog 67 1 = some 1 := by kernel_rfl
theorem sl62 : slTy Tryz.prog 62 = some (67, 3, 24) := by kernel_rfl
theorem st67 : stTy Tryz.prog 67 = some ([.int .i64 0, .int .i64 0, .int .i64 0], [(0, 1), (1, 1), (2, 1)]) := by kernel_rfl
theorem ty62 : tySz Tryz.prog 62 = some (1, false) := by kernel_rfl
theorem ty67 : tySz Tryz.prog 67 = some (3, true) := by kernel_rfl
theorem ty98 : tySz Tryz.prog 98 = some (1, false) := by kernel_rfl
theorem zr67 : zeroOf Tryz.prog 67 = some (.agg #[.int .i64 0, .int .i64 0, .int .i64 0]) := by kernel_rfl
theorem sector_At_walk (a0_w : Int) (a1_t : Int) (w : World) {r : Int} (H : sector_At a0_w a1_t = some r) : Calls Tryz.prog 87 #[.int .i64 a0_w, .int .i64 a1_t] w fun e w' => e = .returned (.int .i64 r) ∧ Ext w w' := by
 unfold sector_At at H
 refine T.enter (args := [_, _]) (S := Sat w []) Tryz.func87 rfl rfl (Sat.start w) ?_
 refine T.seq fun K1 hK1 => T.region (rA rfl (RS.nil (hK1 _ _ ?_)))
 refine T.seq fun K2 hK2 => ?_
 refine T.drawn (fun _ => True) [(0, .pu), (1, .pu), (2, .pu), (3, .pu), (4, .pu), (5, .rd), (6, .pu), (7, .pu), (8, .pu), (9, .pu), (10, .pu), (11, .pu), (12, .pu)] mixed (ClE.sat _ _) (by kernel_rfl) ?_
 refine dp rfl (Pu.move rfl) (dp rfl (Pu.move rfl) ?_)
 obtain ⟨g1, H⟩ := gdE H
 refine dp rfl (Pu.remN rfl rfl (and3 g1)) ?_
 obtain ⟨g2, H⟩ := gdE H
 refine dp rfl (Pu.quoN rfl rfl ⟨g2.1, g2.2, by decide⟩) (dp rfl (Pu.move rfl) ?_)
 obtain ⟨x3, hx3, H⟩ := bindE H
 refine dq rfl (Qt.call (vs := [.int .i64 a0_w]) ent120 rfl fun w s => sector_across_walk a0_w w  hx3) (dp rfl (Pu.move rfl) (dp rfl (Pu.move rfl) ?_))
 obtain ⟨g4, H⟩ := gdE H
 refine dp rfl (Pu.quoN rfl rfl g4) ?_
 obtain ⟨g5, H⟩ := gdE H
 refine dp rfl (Pu.quoN rfl rfl ⟨g5.1, g5.2, by decide⟩) ?_
 obtain ⟨g6, H⟩ := gdE H
 refine dp rfl (Pu.mulS rfl rfl g6) ?_
 obtain ⟨g7, H⟩ := gdE H
 refine dp rfl (Pu.addS rfl rfl g7) (dp rfl (Pu.assign rfl) (RD.nil (hK2 _ _ (cq [(4, _)] ?_))))
 obtain rfl := sj H
 refine T.rt (Cont.ret1 rfl rfl fun w' s => ?_)
 exact ⟨rfl, s.ext⟩
theorem sector_Tiles_walk (a0_w : Int) (a1_h : Int) (a2_s : Int) (w : World) {r : List Int} (H : sector_Tiles a0_w a1_h a2_s = some r) : Calls Tryz.prog 122 #[.int .i64 a0_w, .int .i64 a1_h, .int .i64 a2_s] w fun e w' => ∃ q1 : (Option Nat × Nat), e = .returned (rowV q1 r.length) ∧ Sat w [row nilH 3 (rowV q1 r.length) r] w' := by
 unfold sector_Tiles at H
 refine T.enter (args := [_, _, _]) (S := Sat w []) Tryz.func122 rfl rfl (Sat.start w) ?_
 refine T.seq fun K1 hK1 => T.region (rA rfl (RS.nil (hK1 _ _ ?_)))
 refine T.seq fun K2 hK2 => ?_
 refine T.drawn (fun _ => True) [(0, .pu), (1, .pu), (2, .rd), (3, .pu), (4, .pu), (5, .pu), (6, .pu), (7, .rd), (8, .pu), (9, .pu), (10, .pu), (11, .pu)] mixed (ClE.sat _ _) (by kernel_rfl) ?_
 refine dp rfl (Pu.move rfl) (dp rfl (Pu.move rfl) ?_)
 obtain ⟨x1, hx1, H⟩ := bindE H
 refine dq rfl (Qt.call (vs := [.int .i64 a0_w]) ent120 rfl fun w s => sector_across_walk a0_w w  hx1) ?_
 obtain ⟨g2, H⟩ := gdE H
 refine dp rfl (Pu.remN rfl rfl (and3 g2)) ?_
 obtain ⟨g3, H⟩ := gdE H
 refine dp rfl (Pu.mulS rfl rfl g3) (dp rfl (Pu.move rfl) (dp rfl (Pu.move rfl) ?_))
 obtain ⟨x4, hx4, H⟩ := bindE H
 refine dq rfl (Qt.call (vs := [.int .i64 a0_w]) ent120 rfl fun w s => sector_across_walk a0_w w  hx4) ?_
 obtain ⟨g5, H⟩ := gdE H
 refine dp rfl (Pu.quoN rfl rfl g5) ?_
 obtain ⟨g6, H⟩ := gdE H
 refine dp rfl (Pu.mulS rfl rfl g6) (dp rfl (Pu.assign rfl) (dp rfl (Pu.assign rfl) (RD.nil (hK2 _ _ (cq [(0, _), (1, _), (6, _), (7, _), (8, _)] ?_)))))
 refine T.seq fun K3 hK3 => T.seq fun K4 hK4 => T.region (rM rfl (rA rfl (RS.nil (hK4 _ _ ?_))))
 refine T.joinE (σ := List Int) (γ := (Option Nat × Nat)) H (fun s => s) [] trivial (fun v8 q9 => [(6, rowV q9 v8.length)]) (fun v8 q9 => Sat w [row nilH 3 (rowV q9 v8.length) v8]) ?_ ?_
 ·rintro v8 q9 H
  try dsimp only [Ex.then] at H
  refine Cont.conseq (fr' := [(6, _)]) ?_ ⟨rfl, trivial⟩ (fun _ s => s)
  refine id (hK3 _ _ ?_)
  refine T.seq fun K5 hK5 => T.region (rM rfl (rA rfl (RS.nil (hK5 _ _ ?_))))
  obtain rfl := sj H
  refine T.rt (Cont.ret1 rfl rfl fun w' s => ?_)
  exact ⟨q9, rfl, s.pick [0] (by decide) rfl⟩
 ·intro z7 hz7 HX7 hJ7
  refine T.block ?_
  refine T.loopA (γ := (Option Nat × Nat)) hz7 [(0, _), (1, _), (7, _), (8, _)] (fun (l10, v12) q11 => [(6, rowV q11 l10.length), (9, .int .i64 v12)]) (fun (l10, v12) q11 => Sat w [row nilH 3 (rowV q11 l10.length) l10]) (none, 0) ⟨rfl, rfl, rfl, rfl, trivial⟩ ⟨rfl, rfl, trivial⟩ (fun w s => (s.nilRow (α := Int) 3).pick [0] (by decide) rfl) ?_
  rintro ⟨l10, v12⟩ q11 y13 H hd7 KL7 hL7
  try dsimp only [Ex.then] at H
  refine cq [(6, _), (9, _), (0, _), (1, _), (7, _), (8, _)] ?_
  refine T.seq fun K6 hK6 => T.seq fun K7 hK7 => T.region (rM rfl (rM rfl ?_))
  obtain ⟨g14, H⟩ := gdE H
  refine rp (Pu.addS rfl rfl g14) (rM rfl (rp (Pu.minI rfl rfl) (rp (Pu.bin rfl rfl rfl) (RS.nil (hK7 _ _ ?_)))))
  refine T.condP rfl (fun hc15 => ?_) (fun hc15 => ?_)
  ·have H := ifT hc15 H
   refine T.skip (hK6 _ _ (cq [(0, _), (1, _), (6, _), (7, _), (8, _), (9, _)] ?_))
   refine T.seq fun K8 hK8 => T.block (T.seq fun K9 hK9 => T.region (rM rfl (rA rfl (RS.nil (hK9 _ _ ?_)))))
   refine T.joinE (σ := List Int) (γ := (Option Nat × Nat)) H (fun s => s) [(0, _), (1, _), (7, _), (8, _), (9, _)] ⟨rfl, rfl, rfl, rfl, rfl, trivial⟩ (fun v17 q18 => [(6, rowV q18 v17.length)]) (fun v17 q18 => Sat w [row nilH 3 (rowV q18 v17.length) v17]) ?_ ?_
   ·rintro v17 q18 H
    try dsimp only [Ex.then] at H
    refine Cont.conseq (fr' := [(6, _), (0, _), (1, _), (7, _), (8, _), (9, _)]) ?_ ⟨rfl, rfl, rfl, rfl, rfl, rfl, trivial⟩ (fun _ s => s)
    refine id (hK8 _ _ ?_)
    refine T.region (rM rfl ?_)
    obtain ⟨g19, H⟩ := gdE H
    refine rp (Pu.addS rfl rfl g19) (rA rfl (RS.nil (hL7 _ _ (v17, (v12 + 1)) q18 H ⟨rfl, rfl, rfl, rfl, trivial⟩ ⟨rfl, rfl, trivial⟩ (fun w s => s))))
   ·intro z16 hz16 HX16 hJ16
    refine T.block ?_
    refine T.loopA (γ := (Option Nat × Nat)) hz16 [(0, _), (1, _), (7, _), (8, _), (9, _)] (fun (v20, l21) q22 => [(6, rowV q22 l21.length), (10, .int .i64 v20)]) (fun (v20, l21) q22 => Sat w [row nilH 3 (rowV q22 l21.length) l21]) q11 ⟨rfl, rfl, rfl, rfl, rfl, trivial⟩ ⟨rfl, rfl, trivial⟩ (fun w s => s) ?_
    rintro ⟨v20, l21⟩ q22 y23 H hd16 KL16 hL16
    try dsimp only [Ex.then] at H
    refine cq [(6, _), (10, _), (0, _), (1, _), (7, _), (8, _), (9, _)] ?_
    refine T.seq fun K10 hK10 => T.seq fun K11 hK11 => T.region (rM rfl (rM rfl ?_))
    obtain ⟨g24, H⟩ := gdE H
    refine rp (Pu.addS rfl rfl g24) (rM rfl (rp (Pu.minI rfl rfl) (rp (Pu.bin rfl rfl rfl) (RS.nil (hK11 _ _ ?_)))))
    refine T.condP rfl (fun hc25 => ?_) (fun hc25 => ?_)
    ·have H := ifT hc25 H
     refine T.skip (hK10 _ _ (cq [(0, _), (1, _), (6, _), (7, _), (8, _), (9, _), (10, _)] ?_))
     refine T.seq fun K12 hK12 => T.block (T.region (rM rfl (rM rfl (rM rfl (rM rfl ?_)))))
     obtain ⟨g26, H⟩ := gdE H
     refine rp (Pu.mulS rfl rfl g26) ?_
     obtain ⟨g27, H⟩ := gdE H
     refine rp (Pu.addS rfl rfl g27) (RS.solid (Sd.litS (cs := [_]) sl23 zr3 rfl rfl rfl rfl rfl) rfl rfl fun b28 => ?_)
     obtain ⟨g30, H⟩ := gdE H
     refine RS.solid (Sd.app1c (α := Int) 0 1 (v20 + (a0_w * v12)) rfl rfl (nilH_lt _) sl23 zr3 rfl rfl rfl rfl g30 (by decide)) rfl rfl fun q29 => rA rfl (RS.nil (hK12 _ _ (cq [(0, _), (1, _), (6, _), (7, _), (8, _), (9, _), (10, _)] ?_)))
     refine T.region (rM rfl ?_)
     obtain ⟨g31, H⟩ := gdE H
     refine rp (Pu.addS rfl rfl g31) (rA rfl (RS.nil (hL16 _ _ ((v20 + 1), (l21 ++ [(v20 + (a0_w * v12))])) q29 H ⟨rfl, rfl, rfl, rfl, rfl, trivial⟩ ⟨rfl, rfl, trivial⟩ (fun w s => s.pick [0] (by decide) rfl))))
    ·have H := ifF hc25 H
     obtain rfl := hd16 _ H
     refine T.xt (hJ16 _ _ l21 q22 HX16 ⟨rfl, rfl, rfl, rfl, rfl, trivial⟩ ⟨rfl, trivial⟩ (fun w s => s))
  ·have H := ifF hc15 H
   obtain rfl := hd7 _ H
   refine T.xt (hJ7 _ _ l10 q11 HX7 trivial ⟨rfl, trivial⟩ (fun w s => s))
theorem portal_border_walk (a0_free : List Bool) (a1_a : Int) (a2_over : Int) (a3_step : Int) (a4_n : Int) (w : World) {v0 : Value} (h0 : R (hpOf w) a0_free [v0]) {r : List Prt} (H : portal_border a0_free a1_a a2_over a3_step a4_n = some r) : Calls Tryz.prog 97 #[v0, .int .i64 a1_a, .int .i64 a2_over, .int .i64 a3_step, .int .i64 a4_n] w fun e w' => ∃ q1 : (Option Nat × Nat), e = .returned (rowV q1 r.length) ∧ Sat w [row nilH 67 (rowV q1 r.length) r] w' := by
 have hm0 := R_max h0
 obtain ⟨p0, c0, rfl⟩ := R_form h0
 unfold portal_border at H
 refine T.enter (args := [_, _, _, _, _]) (S := Sat w []) Tryz.func97 rfl rfl (Sat.start w) ?_
 refine T.seq fun K1 hK1 => T.region (rA rfl (RS.nil (hK1 _ _ ?_)))
 refine T.seq fun K2 hK2 => T.region (rA rfl (RS.nil (hK2 _ _ ?_)))
 refine T.seq fun K3 hK3 => T.seq fun K4 hK4 => T.region (rM rfl ?_)
 obtain ⟨g1, H⟩ := gdE H
 refine rp (Pu.addS rfl rfl g1) (rM rfl (RS.nil (hK4 _ _ ?_)))
 refine T.joinE (σ := List Prt) (γ := (Option Nat × Nat)) H (fun s => s) [] trivial (fun v3 q4 => [(10, rowV q4 v3.length)]) (fun v3 q4 => Sat w [row nilH 67 (rowV q4 v3.length) v3]) ?_ ?_
 ·rintro v3 q4 H
  try dsimp only [Ex.then] at H
  refine Cont.conseq (fr' := [(10, _)]) ?_ ⟨rfl, trivial⟩ (fun _ s => s)
  refine id (hK3 _ _ ?_)
  refine T.seq fun K5 hK5 => T.region (rM rfl (rA rfl (RS.nil (hK5 _ _ ?_))))
  obtain rfl := sj H
  refine T.rt (Cont.ret1 rfl rfl fun w' s => ?_)
  exact ⟨q4, rfl, s.pick [0] (by decide) rfl⟩
 ·intro z2 hz2 HX2 hJ2
  refine T.block ?_
  refine T.loopA (γ := (Option Nat × Nat)) hz2 [(0, _), (1, _), (2, _), (3, _), (4, _), (16, _)] (fun (l5, v7, v8) q6 => [(10, rowV q6 l5.length), (11, .int .i64 v7), (17, .int .i64 v8)]) (fun (l5, v7, v8) q6 => Sat w [row nilH 67 (rowV q6 l5.length) l5]) (none, 0) ⟨rfl, rfl, rfl, rfl, rfl, rfl, trivial⟩ ⟨rfl, rfl, rfl, trivial⟩ (fun w s => (s.nilRow (α := Prt) 67).pick [0] (by decide) rfl) ?_
  rintro ⟨l5, v7, v8⟩ q6 y9 H hd2 KL2 hL2
  try dsimp only [Ex.then] at H
  refine cq [(10, _), (11, _), (17, _), (0, _), (1, _), (2, _), (3, _), (4, _), (16, _)] ?_
  refine T.seq fun K6 hK6 => T.region (rp (Pu.bin rfl rfl rfl) (RS.nil (hK6 _ _ ?_)))
  refine T.seq fun K7 hK7 => ?_
  refine T.condP rfl (fun hc10 => ?_) (fun hc10 => ?_)
  ·have H := ifT hc10 H
   refine T.skip (hK7 _ _ ?_)
   refine T.seq fun K8 hK8 => T.block (T.seq fun K9 hK9 => T.region (rM rfl (rA rfl (RS.nil (hK9 _ _ ?_)))))
   refine T.seq fun K10 hK10 => T.region (rM rfl (rM rfl (rM rfl ?_)))
   obtain ⟨g11, H⟩ := gdE H
   refine rp (Pu.mulS rfl rfl g11) ?_
   obtain ⟨g12, H⟩ := gdE H
   refine rp (Pu.addS rfl rfl g12) (rA rfl (RS.nil (hK10 _ _ (cq [(0, _), (1, _), (2, _), (3, _), (4, _), (10, _), (11, _), (12, _), (13, _), (16, _), (17, _)] ?_))))
   refine T.seq fun K11 hK11 => T.seq fun K12 hK12 => T.region (rM rfl (rM rfl (rp (Pu.bin rfl rfl rfl) (rM rfl ?_))))
   obtain ⟨g15, H⟩ := gdE H
   refine RS.joinV 5 33 (.bool (decide ((v8 < a4_n) ∧ ((gi a0_free (a1_a + (a3_step * v8))) = true)))) [(0, _), (1, _), (2, _), (3, _), (4, _), (10, _), (11, _), (13, _), (16, _), (17, _)] ⟨rfl, rfl, rfl, rfl, rfl, rfl, rfl, rfl, rfl, rfl, trivial⟩ ?_ ?_
   ·refine rM rfl ?_
    obtain ⟨g18, H⟩ := gdE H
    obtain ⟨g19, H⟩ := gdE H
    refine RS.joinV 7 41 (.bool (decide (((v8 < a4_n) ∧ ((gi a0_free (a1_a + (a3_step * v8))) = true)) ∧ ((gi a0_free ((a1_a + (a3_step * v8)) + a2_over)) = true)))) [(0, _), (1, _), (2, _), (3, _), (4, _), (10, _), (11, _), (13, _), (16, _), (17, _)] ⟨rfl, rfl, rfl, rfl, rfl, rfl, rfl, rfl, rfl, rfl, trivial⟩ ?_ ?_
    ·refine RS.nil (hK12 _ _ ?_)
     refine T.condP rfl (fun hc20 => ?_) (fun hc20 => ?_)
     ·have H := ifT hc20 H
      refine T.seq fun K13 hK13 => T.region (rM rfl ?_)
      obtain ⟨g21, H⟩ := gdE H
      refine rp (Pu.addS rfl rfl g21) (rA rfl (RS.nil (hK13 _ _ (cq [(0, _), (1, _), (2, _), (3, _), (4, _), (10, _), (11, _), (16, _), (17, _)] ?_))))
      refine T.xt (hK8 _ _ ?_)
      refine T.region ?_
      obtain ⟨g22, H⟩ := gdE H
      refine rp (Pu.addS rfl rfl g22) (rM rfl (RS.nil (hL2 _ _ (l5, (v7 + 1), (v8 + 1)) q6 H ⟨rfl, rfl, rfl, rfl, rfl, rfl, trivial⟩ ⟨rfl, rfl, rfl, trivial⟩ (fun w s => s))))
     ·have H := ifF hc20 H
      refine T.skip (hK11 _ _ ?_)
      refine T.seq fun K14 hK14 => T.seq fun K15 hK15 => T.region (rM rfl (rp (Pu.bin rfl rfl rfl) (RS.nil (hK15 _ _ ?_))))
      refine T.condP rfl (fun hc23 => ?_) (fun hc23 => ?_)
      ·have H := ifT hc23 H
       refine cq [(0, _), (1, _), (2, _), (3, _), (4, _), (10, _), (11, _), (13, _), (16, _), (17, _)] ?_
       refine T.seq fun K16 hK16 => T.region (rM rfl (rM rfl (rM rfl ?_)))
       obtain ⟨g24, H⟩ := gdE H
       refine rp (Pu.mulS rfl rfl g24) ?_
       obtain ⟨g25, H⟩ := gdE H
       refine rp (Pu.subS rfl rfl g25) (rM rfl (rM rfl ?_))
       obtain ⟨g26, H⟩ := gdE H
       refine rp (Pu.subS rfl rfl g26) ?_
       obtain ⟨g27, H⟩ := gdE H
       refine rp (Pu.quoN rfl rfl ⟨g27.1, g27.2, by decide⟩) ?_
       obtain ⟨g28, H⟩ := gdE H
       refine rp (Pu.mulS rfl rfl g28) ?_
       obtain ⟨g29, H⟩ := gdE H
       refine rp (Pu.addS rfl rfl g29) (rA rfl (RS.nil (hK16 _ _ (cq [(0, _), (1, _), (2, _), (3, _), (4, _), (10, _), (11, _), (14, _), (16, _), (17, _)] ?_))))
       refine T.region (rM rfl (rM rfl (rM rfl (rM rfl ?_))))
       obtain ⟨g30, H⟩ := gdE H
       refine rp (Pu.addS rfl rfl g30) (rM rfl (rp (Pu.build (cells := [_, _, _]) st67 rfl rfl) (RS.solid (Sd.litS (cs := [_, _, _]) sl62 zr67 rfl rfl rfl rfl rfl) rfl rfl fun b31 => ?_)))
       obtain ⟨g33, H⟩ := gdE H
       refine RS.solid (Sd.app1c (α := Prt) 0 1 (⟨(((a1_a + (a3_step * v8)) - (a3_step * v7)) + (a3_step * ((v7 - 1) / 2))), ((((a1_a + (a3_step * v8)) - (a3_step * v7)) + (a3_step * ((v7 - 1) / 2))) + a2_over), v7⟩ : Prt) rfl rfl (nilH_lt _) sl62 zr67 rfl rfl rfl rfl g33 (by decide)) rfl rfl fun q32 => rA rfl (RS.nil (hK14 _ _ (cq [(0, _), (1, _), (2, _), (3, _), (4, _), (10, _), (16, _), (17, _)] ?_)))
       refine T.region (rA rfl (RS.nil (hK8 _ _ ?_)))
       refine T.region ?_
       obtain ⟨g34, H⟩ := gdE H
       refine rp (Pu.addS rfl rfl g34) (rM rfl (RS.nil (hL2 _ _ ((l5 ++ [(⟨(((a1_a + (a3_step * v8)) - (a3_step * v7)) + (a3_step * ((v7 - 1) / 2))), ((((a1_a + (a3_step * v8)) - (a3_step * v7)) + (a3_step * ((v7 - 1) / 2))) + a2_over), v7⟩ : Prt)]), 0, (v8 + 1)) q32 H ⟨rfl, rfl, rfl, rfl, rfl, rfl, trivial⟩ ⟨rfl, rfl, rfl, trivial⟩ (fun w s => s.pick [0] (by decide) rfl))))
      ·have H := ifF hc23 H
       refine T.skip (hK14 _ _ (cq [(0, _), (1, _), (2, _), (3, _), (4, _), (10, _), (16, _), (17, _)] ?_))
       refine T.region (rA rfl (RS.nil (hK8 _ _ ?_)))
       refine T.region ?_
       obtain ⟨g35, H⟩ := gdE H
       refine rp (Pu.addS rfl rfl g35) (rM rfl (RS.nil (hL2 _ _ (l5, 0, (v8 + 1)) q6 H ⟨rfl, rfl, rfl, rfl, rfl, rfl, trivial⟩ ⟨rfl, rfl, rfl, trivial⟩ (fun w s => s))))
    ·intro hJ17
     refine RS.splitP 34 rfl (fun hc16 => ?_) (fun hc16 => ?_)
     ·refine rM rfl (rM rfl (rM rfl (rp (Pu.addS rfl rfl (g18 hc16)) ?_)))
      obtain ⟨bl36, ol37, rfl⟩ := R_ptr h0 (ne_of_pos (pos_of (g19 hc16)))
      refine rp (Pu.indexSl sl59 rfl rfl (g19 hc16)) (rq (Qt.ld0 (α := Bool) (Rd.base h0) ty4 rfl rfl (g19 hc16) (by rintro _ _ rfl; rfl)) (rp (Pu.pickT rfl rfl) ?_))
      exact hJ17 _ _ ⟨dAndTB hc16, rfl, rfl, rfl, rfl, rfl, rfl, rfl, rfl, rfl, rfl, trivial⟩ (fun w s => s)
     ·refine ro (ro (ro (ro (ro (ro (rp (Pu.pickF rfl rfl) ?_))))))
      exact hJ17 _ _ ⟨dAndF hc16, rfl, rfl, rfl, rfl, rfl, rfl, rfl, rfl, rfl, rfl, trivial⟩ (fun w s => s)
   ·intro hJ14
    refine RS.splitP 28 rfl (fun hc13 => ?_) (fun hc13 => ?_)
    ·refine rM rfl (rM rfl ?_)
     obtain ⟨bl38, ol39, rfl⟩ := R_ptr h0 (ne_of_pos (pos_of (g15 hc13)))
     refine rp (Pu.indexSl sl59 rfl rfl (g15 hc13)) (rq (Qt.ld0 (α := Bool) (Rd.base h0) ty4 rfl rfl (g15 hc13) (by rintro _ _ rfl; rfl)) (rp (Pu.pickT rfl rfl) ?_))
     exact hJ14 _ _ ⟨dAndTB hc13, rfl, rfl, rfl, rfl, rfl, rfl, rfl, rfl, rfl, rfl, trivial⟩ (fun w s => s)
    ·refine ro (ro (ro (ro (rp (Pu.pickF rfl rfl) ?_))))
     exact hJ14 _ _ ⟨dAndF hc13, rfl, rfl, rfl, rfl, rfl, rfl, rfl, rfl, rfl, rfl, trivial⟩ (fun w s => s)
  ·have H := ifF hc10 H
   obtain rfl := hd2 _ H
   refine T.xt (hJ2 _ _ l5 q6 HX2 trivial ⟨rfl, trivial⟩ (fun w s => s))
theorem portal_All_walk (a0_w : Int) (a1_h : Int) (a2_free : List Bool) (w : World) {v0 : Value} (h0 : R (hpOf w) a2_free [v0]) {r : List Prt} (H : portal_All a0_w a1_h a2_free = some r) : Calls Tryz.prog 62 #[.int .i64 a0_w, .int .i64 a1_h, v0] w fun e w' => ∃ q1 : (Option Nat × Nat), e = .returned (rowV q1 r.length) ∧ Sat w [row nilH 67 (rowV q1 r.length) r] w' := by
 have hm0 := R_max h0
 obtain ⟨p0, c0, rfl⟩ := R_form h0
 unfold portal_All at H
 refine T.enter (args := [_, _, _]) (S := Sat w []) Tryz.func62 rfl rfl (Sat.start w) ?_
 refine T.seq fun K1 hK1 => T.region (rA rfl (RS.nil (hK1 _ _ ?_)))
 refine T.seq fun K2 hK2 => T.seq fun K3 hK3 => T.region (rA rfl (RS.nil (hK3 _ _ ?_)))
 refine T.joinE (σ := List Prt) (γ := (Option Nat × Nat)) H (fun s => s) [] trivial (fun v2 q3 => [(6, rowV q3 v2.length)]) (fun v2 q3 => Sat w [row nilH 67 (rowV q3 v2.length) v2]) ?_ ?_
 ·rintro v2 q3 H
  try dsimp only [Ex.then] at H
  refine Cont.conseq (fr' := [(6, _)]) ?_ ⟨rfl, trivial⟩ (fun _ s => s)
  refine id (hK2 _ _ ?_)
  refine T.seq fun K4 hK4 => T.region (rM rfl ?_)
  obtain ⟨x4, hx4, H⟩ := bindE H
  refine RS.solid (Sd.callF0 (vs := [rowV q3 v2.length, .func (.func 99) #[] #[]]) (C' := row nilH 67 (rowV q3 v2.length) x4) (v := .tuple #[]) 0 ent98 rfl rfl (fun w s => slices_SortFuncP_walk v2 rfl  hx4 w s)) rfl rfl fun _ => RS.nil (hK4 _ _ ?_)
  refine T.seq fun K5 hK5 => T.region (rM rfl (rA rfl (RS.nil (hK5 _ _ (cq [(6, _)] ?_)))))
  obtain rfl := sj H
  refine T.rt (Cont.ret1 rfl rfl fun w' s => ?_)
  exact ⟨q3, (by simp only [(s.row_fits (q := q3) (m := v2.length) (k := 0) rfl).1]; try rfl), (Sat.relen (q := q3) (m := v2.length) 0 s rfl).pick [0] (by decide) rfl⟩
 ·intro z1 hz1 HX1 hJ1
  refine T.block ?_
  refine T.loopA (γ := (Option Nat × Nat)) hz1 [(0, _), (1, _), (2, _)] (fun (l5, v7) q6 => [(6, rowV q6 l5.length), (7, .int .i64 v7)]) (fun (l5, v7) q6 => Sat w [row nilH 67 (rowV q6 l5.length) l5]) (none, 0) ⟨rfl, rfl, rfl, trivial⟩ ⟨rfl, rfl, trivial⟩ (fun w s => (s.nilRow (α := Prt) 67).pick [0] (by decide) rfl) ?_
  rintro ⟨l5, v7⟩ q6 y8 H hd1 KL1 hL1
  try dsimp only [Ex.then] at H
  refine cq [(6, _), (7, _), (0, _), (1, _), (2, _)] ?_
  refine T.seq fun K6 hK6 => T.seq fun K7 hK7 => T.region (rM rfl (rM rfl (rp (Pu.bin rfl rfl rfl) (RS.nil (hK7 _ _ ?_)))))
  refine T.condP rfl (fun hc9 => ?_) (fun hc9 => ?_)
  ·have H := ifT hc9 H
   refine T.skip (hK6 _ _ (cq [(0, _), (1, _), (2, _), (6, _), (7, _)] ?_))
   refine T.seq fun K8 hK8 => T.block (T.seq fun K9 hK9 => T.region (rA rfl (RS.nil (hK9 _ _ ?_))))
   refine T.joinE (σ := List Prt) (γ := (Option Nat × Nat)) H (fun s => s) [(0, _), (1, _), (2, _), (7, _)] ⟨rfl, rfl, rfl, rfl, trivial⟩ (fun v11 q12 => [(6, rowV q12 v11.length)]) (fun v11 q12 => Sat w [row nilH 67 (rowV q12 v11.length) v11]) ?_ ?_
   ·rintro v11 q12 H
    try dsimp only [Ex.then] at H
    refine Cont.conseq (fr' := [(6, _), (0, _), (1, _), (2, _), (7, _)]) ?_ ⟨rfl, rfl, rfl, rfl, rfl, trivial⟩ (fun _ s => s)
    refine id (hK8 _ _ ?_)
    refine T.region (rM rfl ?_)
    obtain ⟨g13, H⟩ := gdE H
    refine rp (Pu.addS rfl rfl g13) (rA rfl (RS.nil (hL1 _ _ (v11, (v7 + 8)) q12 H ⟨rfl, rfl, rfl, trivial⟩ ⟨rfl, rfl, trivial⟩ (fun w s => s))))
   ·intro z10 hz10 HX10 hJ10
    refine T.block ?_
    refine T.loopA (γ := (Option Nat × Nat)) hz10 [(0, _), (1, _), (2, _), (7, _)] (fun (v14, l15) q16 => [(6, rowV q16 l15.length), (8, .int .i64 v14)]) (fun (v14, l15) q16 => Sat w [row nilH 67 (rowV q16 l15.length) l15]) q6 ⟨rfl, rfl, rfl, rfl, trivial⟩ ⟨rfl, rfl, trivial⟩ (fun w s => s) ?_
    rintro ⟨v14, l15⟩ q16 y17 H hd10 KL10 hL10
    try dsimp only [Ex.then] at H
    refine cq [(6, _), (8, _), (0, _), (1, _), (2, _), (7, _)] ?_
    refine T.seq fun K10 hK10 => T.seq fun K11 hK11 => T.region (rM rfl (rM rfl (rp (Pu.bin rfl rfl rfl) (RS.nil (hK11 _ _ ?_)))))
    refine T.condP rfl (fun hc18 => ?_) (fun hc18 => ?_)
    ·have H := ifT hc18 H
     refine T.skip (hK10 _ _ (cq [(0, _), (1, _), (2, _), (6, _), (7, _), (8, _)] ?_))
     refine T.seq fun K12 hK12 => T.block (T.seq fun K13 hK13 => T.seq fun K14 hK14 => T.region (rM rfl ?_))
     obtain ⟨g19, H⟩ := gdE H
     refine rp (Pu.addS rfl rfl g19) (rM rfl (rp (Pu.bin rfl rfl rfl) (RS.nil (hK14 _ _ ?_))))
     refine T.joinE (σ := List Prt) (γ := (Option Nat × Nat)) H (fun s => s) [(0, _), (1, _), (2, _), (7, _), (8, _)] ⟨rfl, rfl, rfl, rfl, rfl, trivial⟩ (fun v21 q22 => [(6, rowV q22 v21.length)]) (fun v21 q22 => Sat w [row nilH 67 (rowV q22 v21.length) v21]) ?_ ?_
     ·rintro v21 q22 H
      try dsimp only [Ex.then] at H
      refine Cont.conseq (fr' := [(6, _), (0, _), (1, _), (2, _), (7, _), (8, _)]) ?_ ⟨rfl, rfl, rfl, rfl, rfl, rfl, trivial⟩ (fun _ s => s)
      refine id (hK13 _ _ ?_)
      refine T.seq fun K15 hK15 => T.region (rM rfl ?_)
      obtain ⟨g23, H⟩ := gdE H
      refine rp (Pu.addS rfl rfl g23) (rM rfl (rp (Pu.bin rfl rfl rfl) (RS.nil (hK15 _ _ ?_))))
      refine T.condP rfl (fun hc24 => ?_) (fun hc24 => ?_)
      ·have H := ifT hc24 H
       refine cq [(0, _), (1, _), (2, _), (6, _), (7, _), (8, _)] ?_
       refine T.region (rM rfl (rM rfl (rM rfl (rM rfl (rM rfl ?_)))))
       obtain ⟨g25, H⟩ := gdE H
       refine rp (Pu.addS rfl rfl g25) ?_
       obtain ⟨g26, H⟩ := gdE H
       refine rp (Pu.subS rfl rfl g26) ?_
       obtain ⟨g27, H⟩ := gdE H
       refine rp (Pu.mulS rfl rfl g27) ?_
       obtain ⟨g28, H⟩ := gdE H
       refine rp (Pu.addS rfl rfl g28) (rM rfl (rM rfl (rM rfl ?_)))
       obtain ⟨g29, H⟩ := gdE H
       refine rp (Pu.subS rfl rfl g29) (rp (Pu.minI rfl rfl) ?_)
       obtain ⟨x30, hx30, H⟩ := bindE H
       refine RS.solid (Sd.callN (vs := [.slice p0 a2_free.length c0, .int .i64 (v14 + (a0_w * ((v7 + 8) - 1))), .int .i64 a0_w, .int .i64 1, .int .i64 (min 8 (a0_w - v14))]) ent97 rfl (fun w s => portal_border_walk a2_free (v14 + (a0_w * ((v7 + 8) - 1))) a0_w 1 (min 8 (a0_w - v14)) w ((Rd.base h0) w s) hx30)) rfl rfl fun q31 => ?_
       obtain ⟨g33, H⟩ := gdE H
       refine RS.solid (Sd.appR (α := Prt) 0 (nilH_lt _) rfl sl62 zr67 rfl rfl rfl (Rd.ofRowN 1 rfl) g33 (by decide)) rfl rfl fun q32 => rA rfl (RS.nil (hK12 _ _ (cq [(0, _), (1, _), (2, _), (6, _), (7, _), (8, _)] ?_)))
       refine T.region (rM rfl ?_)
       obtain ⟨g34, H⟩ := gdE H
       refine rp (Pu.addS rfl rfl g34) (rA rfl (RS.nil (hL10 _ _ ((v14 + 8), (v21 ++ x30)) q32 H ⟨rfl, rfl, rfl, rfl, trivial⟩ ⟨rfl, rfl, trivial⟩ (fun w s => s.pick [0] (by decide) rfl))))
      ·have H := ifF hc24 H
       refine T.skip (hK12 _ _ (cq [(0, _), (1, _), (2, _), (6, _), (7, _), (8, _)] ?_))
       refine T.region (rM rfl ?_)
       obtain ⟨g35, H⟩ := gdE H
       refine rp (Pu.addS rfl rfl g35) (rA rfl (RS.nil (hL10 _ _ ((v14 + 8), v21) q22 H ⟨rfl, rfl, rfl, rfl, trivial⟩ ⟨rfl, rfl, trivial⟩ (fun w s => s))))
     ·intro z20 H HX20 hJ20
      refine T.condP rfl (fun hc36 => ?_) (fun hc36 => ?_)
      ·have H := ifT hc36 H
       refine cq [(0, _), (1, _), (2, _), (6, _), (7, _), (8, _)] ?_
       refine T.region (rM rfl (rM rfl (rM rfl ?_)))
       obtain ⟨g37, H⟩ := gdE H
       refine rp (Pu.addS rfl rfl g37) ?_
       obtain ⟨g38, H⟩ := gdE H
       refine rp (Pu.subS rfl rfl g38) (rM rfl (rM rfl ?_))
       obtain ⟨g39, H⟩ := gdE H
       refine rp (Pu.mulS rfl rfl g39) ?_
       obtain ⟨g40, H⟩ := gdE H
       refine rp (Pu.addS rfl rfl g40) (rM rfl (rM rfl (rM rfl ?_)))
       obtain ⟨g41, H⟩ := gdE H
       refine rp (Pu.subS rfl rfl g41) (rp (Pu.minI rfl rfl) ?_)
       obtain ⟨x42, hx42, H⟩ := bindE H
       refine RS.solid (Sd.callN (vs := [.slice p0 a2_free.length c0, .int .i64 (((v14 + 8) - 1) + (a0_w * v7)), .int .i64 1, .int .i64 a0_w, .int .i64 (min 8 (a1_h - v7))]) ent97 rfl (fun w s => portal_border_walk a2_free (((v14 + 8) - 1) + (a0_w * v7)) 1 a0_w (min 8 (a1_h - v7)) w ((Rd.base h0) w s) hx42)) rfl rfl fun q43 => ?_
       obtain ⟨g45, H⟩ := gdE H
       refine RS.solid (Sd.appR (α := Prt) 0 (nilH_lt _) rfl sl62 zr67 rfl rfl rfl (Rd.ofRowN 1 rfl) g45 (by decide)) rfl rfl fun q44 => rA rfl ?_
       obtain rfl := sj H
       refine RS.nil (hJ20 _ _ (l15 ++ x42) q44 HX20 ⟨rfl, rfl, rfl, rfl, rfl, trivial⟩ ⟨rfl, trivial⟩ (fun w s => s.pick [0] (by decide) rfl))
      ·have H := ifF hc36 H
       obtain rfl := sj H
       refine T.skip (hJ20 _ _ l15 q16 HX20 ⟨rfl, rfl, rfl, rfl, rfl, trivial⟩ ⟨rfl, trivial⟩ (fun w s => s))
    ·have H := ifF hc18 H
     obtain rfl := hd10 _ H
     refine T.xt (hJ10 _ _ l15 q16 HX10 ⟨rfl, rfl, rfl, rfl, trivial⟩ ⟨rfl, trivial⟩ (fun w s => s))
  ·have H := ifF hc9 H
   obtain rfl := hd1 _ H
   refine T.xt (hJ1 _ _ l5 q6 HX1 trivial ⟨rfl, trivial⟩ (fun w s => s))
theorem portal_Find_walk (a0_w : Int) (a1_h : Int) (a2_free : List Bool) (w : World) {v0 : Value} (h0 : R (hpOf w) a2_free [v0]) {r : List Prt × Int} (H : portal_Find a0_w a1_h a2_free = some r) : Calls Tryz.prog 31 #[.int .i64 a0_w, .int .i64 a1_h, v0] w fun e w' => ∃ q1 : (Option Nat × Nat), e = .returned (.tuple #[rowV q1 r.1.length, .int .i64 r.2]) ∧ Sat w [row nilH 67 (rowV q1 r.1.length) r.1] w' := by
 have hm0 := R_max h0
 obtain ⟨p0, c0, rfl⟩ := R_form h0
 unfold portal_Find at H
 refine T.enter (args := [_, _, _]) (S := Sat w []) Tryz.func31 rfl rfl (Sat.start w) ?_
 refine T.seq fun K1 hK1 => T.region (rA rfl (rA rfl (RS.nil (hK1 _ _ ?_))))
 refine T.seq fun K2 hK2 => T.seq fun K3 hK3 => T.region (rM rfl (rM rfl ?_))
 obtain ⟨x1, hx1, H⟩ := bindE H
 refine rq (Qt.call (vs := [.int .i64 a0_w, .int .i64 a1_h]) ent61 rfl fun w s => sector_May_walk a0_w a1_h w  hx1) (rp (Pu.not rfl) (rM rfl ?_))
 obtain ⟨g4, H⟩ := gdE H
 refine RS.joinV 7 19 (.bool (decide (((!x1) = true) ∨ (¬ (a2_free.length : Int) = (a0_w * a1_h))))) [(0, _), (1, _), (2, _)] ⟨rfl, rfl, rfl, trivial⟩ ?_ ?_
 ·refine RS.nil (hK3 _ _ ?_)
  refine T.condP rfl (fun hc5 => ?_) (fun hc5 => ?_)
  ·have H := ifT hc5 H
   refine cq [] ?_
   refine T.seq fun K4 hK4 => T.region (rA rfl (rA rfl (RS.nil (hK4 _ _ ?_))))
   obtain rfl := sj H
   refine T.rt (Cont.ret2 rfl rfl rfl fun w' s => ?_)
   exact ⟨(none, 0), rfl, (s.nilRow (α := Prt) 67).pick [0] (by decide) rfl⟩
  ·have H := ifF hc5 H
   refine T.skip (hK2 _ _ ?_)
   refine T.seq fun K5 hK5 => T.region (rM rfl (rM rfl (rM rfl ?_)))
   obtain ⟨x6, hx6, H⟩ := bindE H
   refine RS.solid (Sd.callN (vs := [.int .i64 a0_w, .int .i64 a1_h, .slice p0 a2_free.length c0]) ent62 rfl (fun w s => portal_All_walk a0_w a1_h a2_free w ((Rd.base h0) w s) hx6)) rfl rfl fun q7 => rA rfl (rA rfl (RS.nil (hK5 _ _ (cq [(6, _), (7, _)] ?_))))
   obtain rfl := sj H
   refine T.rt (Cont.ret2 rfl rfl rfl fun w' s => ?_)
   exact ⟨q7, rfl, s.pick [0] (by decide) rfl⟩
 ·intro hJ3
  refine RS.split 12 rfl (fun hc2 => ?_) (fun hc2 => ?_)
  ·refine ro (ro (ro (ro (ro (ro (rp (Pu.pickT rfl rfl) ?_))))))
   exact hJ3 _ _ ⟨dOrT hc2, rfl, rfl, rfl, trivial⟩ (fun w s => s)
  ·refine rM rfl (rp (Pu.lenSl sl59 rfl) (rM rfl (rM rfl (rp (Pu.mulS rfl rfl (g4 (bne_of hc2))) (rp (Pu.bin rfl rfl rfl) (rp (Pu.pickF rfl rfl) ?_))))))
   exact hJ3 _ _ ⟨dOrF (bne_of hc2), rfl, rfl, rfl, trivial⟩ (fun w s => s)
theorem cmp_Or_walk (a0_vals : List Int) (w : World) {v0 : Value} (h0 : R (hpOf w) a0_vals [v0]) {r : Int} (H : cmp_Or a0_vals = some r) : Calls Tryz.prog 100 #[v0] w fun e w' => e = .returned (.int .i64 r) ∧ Ext w w' := by
 have hm0 := R_max h0
 obtain ⟨p0, c0, rfl⟩ := R_form h0
 unfold cmp_Or at H
 refine T.enter (args := [_]) (S := Sat w []) Tryz.func100 rfl rfl (Sat.start w) ?_
 refine T.seq fun K1 hK1 => T.region (rA rfl (RS.nil (hK1 _ _ ?_)))
 refine T.seq fun K2 hK2 => T.region (rA rfl (RS.nil (hK2 _ _ ?_)))
 refine T.seq fun K3 hK3 => T.seq fun K4 hK4 => T.region (rM rfl (rp (Pu.lenSl sl23 rfl) (rM rfl (RS.nil (hK4 _ _ ?_)))))
 refine T.joinE (σ := Unit) (γ := Unit) H Ex.go [(3, _)] ⟨rfl, trivial⟩ (fun _ _ => []) (fun _ _ => Sat w []) ?_ ?_
 ·rintro ⟨⟩ ⟨⟩ H
  try dsimp only [Ex.then] at H
  refine Cont.conseq (fr' := [(3, _)]) ?_ ⟨rfl, trivial⟩ (fun _ s => s)
  refine id (hK3 _ _ ?_)
  refine T.seq fun K5 hK5 => T.region (rM rfl (rA rfl (RS.nil (hK5 _ _ ?_))))
  obtain rfl := sj H
  refine T.rt (Cont.ret1 rfl rfl fun w' s => ?_)
  exact ⟨rfl, s.ext⟩
 ·intro z1 hz1 HX1 hJ1
  refine T.block ?_
  refine T.loopA (γ := Unit) hz1 [(3, _), (6, _), (7, _)] (fun v2 _ => [(8, .int .i64 v2)]) (fun v2 _ => Sat w []) () ⟨rfl, rfl, rfl, trivial⟩ ⟨rfl, trivial⟩ (fun w s => s) ?_
  rintro v2 ⟨⟩ y3 H hd1 KL1 hL1
  try dsimp only [Ex.then] at H
  refine cq [(8, _), (3, _), (6, _), (7, _)] ?_
  refine T.seq fun K6 hK6 => T.region (rp (Pu.bin rfl rfl rfl) (RS.nil (hK6 _ _ ?_)))
  refine T.seq fun K7 hK7 => ?_
  refine T.condP rfl (fun hc4 => ?_) (fun hc4 => ?_)
  ·have H := ifT hc4 H
   refine T.skip (hK7 _ _ ?_)
   refine T.seq fun K8 hK8 => T.block (T.seq fun K9 hK9 => T.region ?_)
   obtain ⟨g5, H⟩ := gdE H
   obtain ⟨bl6, ol7, rfl⟩ := R_ptr h0 (ne_of_pos (pos_of g5))
   refine rp (Pu.indexSl sl23 rfl rfl g5) (rq (Qt.ld0 (α := Int) (Rd.base h0) ty3 rfl rfl g5 (by rintro _ _ rfl; rfl)) (rA rfl (RS.nil (hK9 _ _ (cq [(3, _), (5, _), (6, _), (7, _), (8, _)] ?_)))))
   refine T.seq fun K10 hK10 => T.region (rM rfl (rM rfl (rp (Pu.bin rfl rfl rfl) (RS.nil (hK10 _ _ ?_)))))
   refine T.condP rfl (fun hc8 => ?_) (fun hc8 => ?_)
   ·have H := ifT hc8 H
    refine cq [(5, _)] ?_
    refine T.seq fun K11 hK11 => T.region (rM rfl (rA rfl (RS.nil (hK11 _ _ ?_))))
    obtain rfl := hd1 _ H
    have H := HX1
    obtain rfl := sj H
    refine T.rt (Cont.ret1 rfl rfl fun w' s => ?_)
    exact ⟨rfl, s.ext⟩
   ·have H := ifF hc8 H
    refine T.skip (hK8 _ _ (cq [(3, _), (6, _), (7, _), (8, _)] ?_))
    refine T.region ?_
    obtain ⟨g9, H⟩ := gdE H
    refine rp (Pu.addS rfl rfl g9) (rM rfl (RS.nil (hL1 _ _ (v2 + 1) () H ⟨rfl, rfl, rfl, trivial⟩ ⟨rfl, trivial⟩ (fun w s => s))))
  ·have H := ifF hc4 H
   obtain rfl := hd1 _ H
   refine T.xt (hJ1 _ _ () () HX1 ⟨rfl, trivial⟩ trivial (fun w s => s))
theorem slices_Compare_walk (a0_s1 : List Int) (a1_s2 : List Int) (w : World) {v0 v1 : Value} (h0 : R (hpOf w) a0_s1 [v0]) (h1 : R (hpOf w) a1_s2 [v1]) {r : Int} (H : slices_Compare a0_s1 a1_s2 = some r) : Calls Tryz.prog 124 #[v0, v1] w fun e w' => e = .returned (.int .i64 r) ∧ Ext w w' := by
 have hm0 := R_max h0
 obtain ⟨p0, c0, rfl⟩ := R_form h0
 have hm1 := R_max h1
 obtain ⟨p1, c1, rfl⟩ := R_form h1
 unfold slices_Compare at H
 refine T.enter (args := [_, _]) (S := Sat w []) Tryz.func124 rfl rfl (Sat.start w) ?_
 refine T.seq fun K1 hK1 => T.region (rA rfl (RS.nil (hK1 _ _ ?_)))
 refine T.seq fun K2 hK2 => T.seq fun K3 hK3 => T.region (rM rfl (rp (Pu.lenSl sl23 rfl) (rM rfl (RS.nil (hK3 _ _ ?_)))))
 refine T.joinE (σ := Unit) (γ := Unit) H Ex.go [(0, _), (1, _)] ⟨rfl, rfl, trivial⟩ (fun _ _ => []) (fun _ _ => Sat w []) ?_ ?_
 ·rintro ⟨⟩ ⟨⟩ H
  try dsimp only [Ex.then] at H
  refine Cont.conseq (fr' := [(0, _), (1, _)]) ?_ ⟨rfl, rfl, trivial⟩ (fun _ s => s)
  refine id (hK2 _ _ ?_)
  refine T.seq fun K4 hK4 => T.seq fun K5 hK5 => T.region (rM rfl (rp (Pu.lenSl sl23 rfl) (rM rfl (rp (Pu.lenSl sl23 rfl) (rp (Pu.bin rfl rfl rfl) (RS.nil (hK5 _ _ ?_)))))))
  refine T.condP rfl (fun hc2 => ?_) (fun hc2 => ?_)
  ·have H := ifT hc2 H
   refine cq [] ?_
   refine T.seq fun K6 hK6 => T.region (rA rfl (RS.nil (hK6 _ _ ?_)))
   obtain rfl := sj H
   refine T.rt (Cont.ret1 rfl rfl fun w' s => ?_)
   exact ⟨rfl, s.ext⟩
  ·have H := ifF hc2 H
   refine T.skip (hK4 _ _ (cq [] ?_))
   refine T.seq fun K7 hK7 => T.region (rA rfl (RS.nil (hK7 _ _ ?_)))
   obtain rfl := sj H
   refine T.rt (Cont.ret1 rfl rfl fun w' s => ?_)
   exact ⟨rfl, s.ext⟩
 ·intro z1 hz1 HX1 hJ1
  refine T.block ?_
  refine T.loopA (γ := Unit) hz1 [(0, _), (1, _), (9, _), (10, _)] (fun v3 _ => [(11, .int .i64 v3)]) (fun v3 _ => Sat w []) () ⟨rfl, rfl, rfl, rfl, trivial⟩ ⟨rfl, trivial⟩ (fun w s => s) ?_
  rintro v3 ⟨⟩ y4 H hd1 KL1 hL1
  try dsimp only [Ex.then] at H
  refine cq [(11, _), (0, _), (1, _), (9, _), (10, _)] ?_
  refine T.seq fun K8 hK8 => T.region (rp (Pu.bin rfl rfl rfl) (RS.nil (hK8 _ _ ?_)))
  refine T.seq fun K9 hK9 => ?_
  refine T.condP rfl (fun hc5 => ?_) (fun hc5 => ?_)
  ·have H := ifT hc5 H
   refine T.skip (hK9 _ _ ?_)
   refine T.seq fun K10 hK10 => T.block (T.seq fun K11 hK11 => T.region (rM rfl ?_))
   obtain ⟨g6, H⟩ := gdE H
   obtain ⟨bl7, ol8, rfl⟩ := R_ptr h0 (ne_of_pos (pos_of g6))
   refine rp (Pu.indexSl sl23 rfl rfl g6) (rq (Qt.ld0 (α := Int) (Rd.base h0) ty3 rfl rfl g6 (by rintro _ _ rfl; rfl)) (rA rfl (rA rfl (RS.nil (hK11 _ _ (cq [(0, _), (1, _), (5, _), (6, _), (9, _), (10, _), (11, _)] ?_))))))
   refine T.seq fun K12 hK12 => T.seq fun K13 hK13 => T.region (rM rfl (rM rfl (rp (Pu.lenSl sl23 rfl) (rp (Pu.bin rfl rfl rfl) (RS.nil (hK13 _ _ ?_))))))
   refine T.condP rfl (fun hc9 => ?_) (fun hc9 => ?_)
   ·have H := ifT hc9 H
    refine cq [] ?_
    refine T.seq fun K14 hK14 => T.region (rA rfl (RS.nil (hK14 _ _ ?_)))
    obtain rfl := hd1 _ H
    have H := HX1
    obtain rfl := sj H
    refine T.rt (Cont.ret1 rfl rfl fun w' s => ?_)
    exact ⟨rfl, s.ext⟩
   ·have H := ifF hc9 H
    refine T.skip (hK12 _ _ (cq [(0, _), (1, _), (5, _), (6, _), (9, _), (10, _), (11, _)] ?_))
    refine T.seq fun K15 hK15 => T.region (rM rfl (rM rfl ?_))
    obtain ⟨g10, H⟩ := gdE H
    obtain ⟨bl11, ol12, rfl⟩ := R_ptr h1 (ne_of_pos (pos_of g10))
    refine rp (Pu.indexSl sl23 rfl rfl g10) (rq (Qt.ld0 (α := Int) (Rd.base h1) ty3 rfl rfl g10 (by rintro _ _ rfl; rfl)) (rA rfl (RS.nil (hK15 _ _ (cq [(0, _), (1, _), (6, _), (7, _), (9, _), (10, _), (11, _)] ?_)))))
    refine T.seq fun K16 hK16 => T.region (rM rfl (rM rfl ?_))
    obtain ⟨x13, hx13, H⟩ := bindE H
    refine rq (Qt.call (vs := [.int .i64 (gi a0_s1 v3), .int .i64 (gi a1_s2 v3)]) ent101 rfl fun w s => cmp_Compare_walk (gi a0_s1 v3) (gi a1_s2 v3) w  hx13) (rA rfl (RS.nil (hK16 _ _ (cq [(0, _), (1, _), (8, _), (9, _), (10, _), (11, _)] ?_))))
    refine T.seq fun K17 hK17 => T.region (rM rfl (rp (Pu.bin rfl rfl rfl) (RS.nil (hK17 _ _ ?_))))
    refine T.condP rfl (fun hc14 => ?_) (fun hc14 => ?_)
    ·have H := ifT hc14 H
     refine cq [(8, _)] ?_
     refine T.seq fun K18 hK18 => T.region (rM rfl (rA rfl (RS.nil (hK18 _ _ ?_))))
     obtain rfl := hd1 _ H
     have H := HX1
     obtain rfl := sj H
     refine T.rt (Cont.ret1 rfl rfl fun w' s => ?_)
     exact ⟨rfl, s.ext⟩
    ·have H := ifF hc14 H
     refine T.skip (hK10 _ _ (cq [(0, _), (1, _), (9, _), (10, _), (11, _)] ?_))
     refine T.region ?_
     obtain ⟨g15, H⟩ := gdE H
     refine rp (Pu.addS rfl rfl g15) (rM rfl (RS.nil (hL1 _ _ (v3 + 1) () H ⟨rfl, rfl, rfl, rfl, trivial⟩ ⟨rfl, trivial⟩ (fun w s => s))))
  ·have H := ifF hc5 H
   obtain rfl := hd1 _ H
   refine T.xt (hJ1 _ _ () () HX1 ⟨rfl, rfl, trivial⟩ trivial (fun w s => s))
theorem route_label_less_walk (a0_a : Lbl) (a1_b : Lbl) (w : World) {v0 v1 : Value} (h0 : R (hpOf w) a0_a.l [v0]) (h1 : R (hpOf w) a1_b.l [v1]) {r : Bool} (H : route_label_less a0_a a1_b = some r) : Calls Tryz.prog 91 #[.agg #[.int .i64 a0_a.cost, v0], .agg #[.int .i64 a1_b.cost, v1]] w fun e w' => e = .returned (.bool r) ∧ Ext w w' := by
 have hm0 := R_max h0
 obtain ⟨p0, c0, rfl⟩ := R_form h0
 have hm1 := R_max h1
 obtain ⟨p1, c1, rfl⟩ := R_form h1
 unfold route_label_less at H
 refine T.enter (args := [_, _]) (S := Sat w []) Tryz.func91 rfl rfl (Sat.start w) ?_
 refine T.seq fun K1 hK1 => T.region (RS.solid (Sd.box (cs := [_, _]) rfl rfl) rfl rfl fun b1 => RS.solid (Sd.box (cs := [_, _]) rfl rfl) rfl rfl fun b2 => rA rfl (RS.nil (hK1 _ _ (cq [(2, _), (3, _)] ?_))))
 refine T.seq fun K2 hK2 => ?_
 refine T.drawn (fun _ => True) [(0, .pu), (1, .rd), (2, .pu), (3, .rd), (4, .rd), (5, .pu), (6, .rd), (7, .pu), (8, .pu), (9, .rd), (10, .pu), (11, .rd), (12, .pu), (13, .rd), (14, .pu), (15, .rd), (16, .rd), (17, .so), (18, .rd), (19, .pu), (20, .pu)] mixed (ClE.sat _ _) (by kernel_rfl) ?_
 refine dp rfl (Pu.fieldAddr fd105_0 rfl) (dq rfl (Qt.ldB 0 ty3 rfl rfl rfl) (dp rfl (Pu.fieldAddr fd105_0 rfl) (dq rfl (Qt.ldB 1 ty3 rfl rfl rfl) ?_)))
 obtain ⟨x3, hx3, H⟩ := bindE H
 refine dq rfl (Qt.call (vs := [.int .i64 a0_a.cost, .int .i64 a1_b.cost]) ent101 rfl fun w s => cmp_Compare_walk a0_a.cost a1_b.cost w  hx3) (dp rfl (Pu.fieldAddr fd105_1 rfl) (dq rfl (Qt.ldB 0 ty23 rfl rfl rfl) (dp rfl (Pu.lenSl sl23 rfl) (dp rfl (Pu.fieldAddr fd105_1 rfl) (dq rfl (Qt.ldB 1 ty23 rfl rfl rfl) (dp rfl (Pu.lenSl sl23 rfl) ?_))))))
 obtain ⟨x4, hx4, H⟩ := bindE H
 refine dq rfl (Qt.call (vs := [.int .i64 (a0_a.l.length : Int), .int .i64 (a1_b.l.length : Int)]) ent101 rfl fun w s => cmp_Compare_walk (a0_a.l.length : Int) (a1_b.l.length : Int) w  hx4) (dp rfl (Pu.fieldAddr fd105_1 rfl) (dq rfl (Qt.ldB 0 ty23 rfl rfl rfl) (dp rfl (Pu.fieldAddr fd105_1 rfl) (dq rfl (Qt.ldB 1 ty23 rfl rfl rfl) ?_))))
 obtain ⟨x5, hx5, H⟩ := bindE H
 refine dq rfl (Qt.call (vs := [.slice p0 a0_a.l.length c0, .slice p1 a1_b.l.length c1]) ent124 rfl fun w s => slices_Compare_walk a0_a.l a1_b.l w ((Rd.base h0) w s) ((Rd.base h1) w s) hx5) (RD.solid rfl (.inl rfl) rfl rfl (Sd.litS (cs := [_, _, _]) sl23 zr3 rfl rfl rfl rfl rfl) (fun _ => ClE.sat _ _) (fun _ _ _ => trivial) (fun _ _ _ s => s.drop1) fun b6 => ?_)
 obtain ⟨x7, hx7, H⟩ := bindE H
 refine dq rfl (Qt.call (vs := [.slice (some ⟨b6, 0, none⟩) 3 3]) ent100 rfl fun w s => cmp_Or_walk [x3, x4, x5] w ((Rd.ofLit (α := Int) (n := 3) (xs := [x3, x4, x5]) 2 rfl (by decide) rfl ⟨[_], _, rfl, rfl, ⟨[_], _, rfl, rfl, ⟨[_], _, rfl, rfl, rfl⟩⟩⟩) w s) hx7) (dp rfl (Pu.bin rfl rfl rfl) (dp rfl (Pu.assign rfl) (RD.nil (hK2 _ _ (cq [(4, _)] ?_)))))
 obtain rfl := sj H
 refine T.rt (Cont.ret1 rfl rfl fun w' s => ?_)
 exact ⟨rfl, s.ext⟩
theorem route_maze_tile_walk (a0_m : Mz) (a1_place : Int) (w : World) {z0 z1 : Value} {v0 v1 v2 : Value} {n1g p0g : Nat} (hb0 : blk p0g [.pointer (some ⟨n1g, 0, none⟩), v2, z0, z1] 153 (hpOf w)) (hn1 : blk n1g [.int .i64 a0_m.net.g.w, .int .i64 a0_m.net.g.h, v0, .int .i64 a0_m.net.cls, v1] 101 (hpOf w)) (h0 : R (hpOf w) a0_m.net.g.tiles [v0]) (h1 : R (hpOf w) a0_m.net.free [v1]) (h2 : R (hpOf w) a0_m.ps [v2]) {r : Int} (H : route_maze_tile a0_m a1_place = some r) : Calls Tryz.prog 94 #[.pointer (some ⟨p0g, 0, none⟩), .int .i64 a1_place] w fun e w' => e = .returned (.int .i64 r) ∧ Ext w w' := by
 have hm0 := R_max h0
 obtain ⟨p0, c0, rfl⟩ := R_form h0
 have hm1 := R_max h1
 obtain ⟨p1, c1, rfl⟩ := R_form h1
 have hm2 := R_max h2
 obtain ⟨p2, c2, rfl⟩ := R_form h2
 unfold route_maze_tile at H
 refine T.enter (args := [_, _]) (S := Sat w []) Tryz.func94 rfl rfl (Sat.start w) ?_
 refine T.seq fun K1 hK1 => T.region (rA rfl (RS.nil (hK1 _ _ ?_)))
 refine T.seq fun K2 hK2 => T.seq fun K3 hK3 => T.region (rM rfl ?_)
 obtain ⟨g1, H⟩ := gdE H
 refine rp (Pu.remN rfl rfl (and3 ⟨g1.1, g1.2, by decide⟩)) (rp (Pu.bin rfl rfl rfl) (RS.nil (hK3 _ _ ?_)))
 refine T.condP rfl (fun hc2 => ?_) (fun hc2 => ?_)
 ·have H := ifT hc2 H
  refine cq [(0, _), (1, _)] ?_
  refine T.seq fun K4 hK4 => T.region (rM rfl (rp (Pu.nilCheck rfl) (rp (Pu.fieldAddr fd153_1 rfl) (rq (Qt.ldX ty62 rfl hb0 (fun w s => s.ext) rfl) (rM rfl ?_)))))
  obtain ⟨g3, H⟩ := gdE H
  refine rp (Pu.quoN rfl rfl ⟨g3.1, g3.2, by decide⟩) ?_
  obtain ⟨g4, H⟩ := gdE H
  obtain ⟨bl5, ol6, rfl⟩ := R_ptr h2 (ne_of_pos (pos_of g4))
  refine rp (Pu.indexSl sl62 rfl rfl g4) (rp (Pu.fieldAddr fd67_0 rfl) (rq (Qt.ldF (α := Prt) (Rd.base h2) ty3 rfl rfl g4 (by rintro _ _ rfl; rfl)) (rA rfl (RS.nil (hK4 _ _ (cq [(4, _)] ?_))))))
  obtain rfl := sj H
  refine T.rt (Cont.ret1 rfl rfl fun w' s => ?_)
  exact ⟨rfl, s.ext⟩
 ·have H := ifF hc2 H
  refine T.skip (hK2 _ _ (cq [(0, _), (1, _)] ?_))
  refine T.seq fun K5 hK5 => T.region (rM rfl (rp (Pu.nilCheck rfl) (rp (Pu.fieldAddr fd153_1 rfl) (rq (Qt.ldX ty62 rfl hb0 (fun w s => s.ext) rfl) (rM rfl ?_)))))
  obtain ⟨g7, H⟩ := gdE H
  refine rp (Pu.quoN rfl rfl ⟨g7.1, g7.2, by decide⟩) ?_
  obtain ⟨g8, H⟩ := gdE H
  obtain ⟨bl9, ol10, rfl⟩ := R_ptr h2 (ne_of_pos (pos_of g8))
  refine rp (Pu.indexSl sl62 rfl rfl g8) (rp (Pu.fieldAddr fd67_1 rfl) (rq (Qt.ldF (α := Prt) (Rd.base h2) ty3 rfl rfl g8 (by rintro _ _ rfl; rfl)) (rA rfl (RS.nil (hK5 _ _ (cq [(4, _)] ?_))))))
  obtain rfl := sj H
  refine T.rt (Cont.ret1 rfl rfl fun w' s => ?_)
  exact ⟨rfl, s.ext⟩
theorem route_maze_spot_walk (a0_m : Mz) (a1_t : Int) (w : World) {z0 z1 : Value} {v0 v1 v2 : Value} {n1g p0g : Nat} (hb0 : blk p0g [.pointer (some ⟨n1g, 0, none⟩), v2, z0, z1] 153 (hpOf w)) (hn1 : blk n1g [.int .i64 a0_m.net.g.w, .int .i64 a0_m.net.g.h, v0, .int .i64 a0_m.net.cls, v1] 101 (hpOf w)) (h0 : R (hpOf w) a0_m.net.g.tiles [v0]) (h1 : R (hpOf w) a0_m.net.free [v1]) (h2 : R (hpOf w) a0_m.ps [v2]) {r : Int} (H : route_maze_spot a0_m a1_t = some r) : Calls Tryz.prog 123 #[.pointer (some ⟨p0g, 0, none⟩), .int .i64 a1_t] w fun e w' => e = .returned (.int .i64 r) ∧ Ext w w' := by
 have hm0 := R_max h0
 obtain ⟨p0, c0, rfl⟩ := R_form h0
 have hm1 := R_max h1
 obtain ⟨p1, c1, rfl⟩ := R_form h1
 have hm2 := R_max h2
 obtain ⟨p2, c2, rfl⟩ := R_form h2
 unfold route_maze_spot at H
 refine T.enter (args := [_, _]) (S := Sat w []) Tryz.func123 rfl rfl (Sat.start w) ?_
 refine T.seq fun K1 hK1 => T.region (rA rfl (RS.nil (hK1 _ _ ?_)))
 refine T.seq fun K2 hK2 => ?_
 refine T.drawn (fun _ => True) [(0, .pu), (1, .pu), (2, .pu), (3, .pu), (4, .rd), (5, .pu), (6, .pu), (7, .pu), (8, .rd), (9, .pu), (10, .pu), (11, .pu), (12, .pu), (13, .pu), (14, .pu), (15, .rd), (16, .pu), (17, .pu), (18, .pu), (19, .rd), (20, .pu), (21, .pu), (22, .pu), (23, .pu), (24, .pu)] mixed (ClE.sat _ _) (by kernel_rfl) ?_
 refine dp rfl (Pu.move rfl) (dp rfl (Pu.move rfl) (dp rfl (Pu.nilCheck rfl) (dp rfl (Pu.fieldAddr fd153_0 rfl) (dq rfl (Qt.ldX ty98 rfl hb0 (fun w s => s.ext) rfl) (dp rfl (Pu.nilCheck rfl) (dp rfl (Pu.fieldAddr fd101_0 rfl) (dp rfl (Pu.fieldAddr fd36_0 rfl) (dq rfl (Qt.ldX ty3 rfl hn1 (fun w s => s.ext) rfl) ?_))))))))
 obtain ⟨g1, H⟩ := gdE H
 refine dp rfl (Pu.remN rfl rfl (and3 g1)) ?_
 obtain ⟨g2, H⟩ := gdE H
 refine dp rfl (Pu.remN rfl rfl (and3 ⟨g2.1, g2.2, by decide⟩)) (dp rfl (Pu.move rfl) (dp rfl (Pu.move rfl) (dp rfl (Pu.nilCheck rfl) (dp rfl (Pu.fieldAddr fd153_0 rfl) (dq rfl (Qt.ldX ty98 rfl hb0 (fun w s => s.ext) rfl) (dp rfl (Pu.nilCheck rfl) (dp rfl (Pu.fieldAddr fd101_0 rfl) (dp rfl (Pu.fieldAddr fd36_0 rfl) (dq rfl (Qt.ldX ty3 rfl hn1 (fun w s => s.ext) rfl) ?_)))))))))
 obtain ⟨g3, H⟩ := gdE H
 refine dp rfl (Pu.quoN rfl rfl g3) ?_
 obtain ⟨g4, H⟩ := gdE H
 refine dp rfl (Pu.remN rfl rfl (and3 ⟨g4.1, g4.2, by decide⟩)) ?_
 obtain ⟨g5, H⟩ := gdE H
 refine dp rfl (Pu.mulS rfl rfl g5) ?_
 obtain ⟨g6, H⟩ := gdE H
 refine dp rfl (Pu.addS rfl rfl g6) (dp rfl (Pu.assign rfl) (RD.nil (hK2 _ _ (cq [(4, _)] ?_))))
 obtain rfl := sj H
 refine T.rt (Cont.ret1 rfl rfl fun w' s => ?_)
 exact ⟨rfl, s.ext⟩
theorem route_maze_over_walk (a0_m : Mz) (a1_k : Int) (w : World) {z0 z1 : Value} {v0 v1 v2 : Value} {n1g p0g : Nat} (hb0 : blk p0g [.pointer (some ⟨n1g, 0, none⟩), v2, z0, z1] 153 (hpOf w)) (hn1 : blk n1g [.int .i64 a0_m.net.g.w, .int .i64 a0_m.net.g.h, v0, .int .i64 a0_m.net.cls, v1] 101 (hpOf w)) (h0 : R (hpOf w) a0_m.net.g.tiles [v0]) (h1 : R (hpOf w) a0_m.net.free [v1]) (h2 : R (hpOf w) a0_m.ps [v2]) {r : Int} (H : route_maze_over a0_m a1_k = some r) : Calls Tryz.prog 125 #[.pointer (some ⟨p0g, 0, none⟩), .int .i64 a1_k] w fun e w' => e = .returned (.int .i64 r) ∧ Ext w w' := by
 have hm0 := R_max h0
 obtain ⟨p0, c0, rfl⟩ := R_form h0
 have hm1 := R_max h1
 obtain ⟨p1, c1, rfl⟩ := R_form h1
 have hm2 := R_max h2
 obtain ⟨p2, c2, rfl⟩ := R_form h2
 unfold route_maze_over at H
 refine T.enter (args := [_, _]) (S := Sat w []) Tryz.func125 rfl rfl (Sat.start w) ?_
 refine T.seq fun K1 hK1 => T.region (rA rfl (RS.nil (hK1 _ _ ?_)))
 refine T.seq fun K2 hK2 => T.region (rM rfl (rp (Pu.nilCheck rfl) (rp (Pu.fieldAddr fd153_1 rfl) (rq (Qt.ldX ty62 rfl hb0 (fun w s => s.ext) rfl) (rM rfl ?_)))))
 obtain ⟨g1, H⟩ := gdE H
 obtain ⟨bl2, ol3, rfl⟩ := R_ptr h2 (ne_of_pos (pos_of g1))
 refine rp (Pu.indexSl sl62 rfl rfl g1) (rq (Qt.ldW (α := Prt) (cs := [_, _, _]) (Rd.base h2) ty67 rfl rfl g1 rfl (by rintro _ _ rfl; rfl)) (RS.solid (Sd.alloc zr67 rfl) rfl rfl fun b4 => RS.solid (Sd.stB (cs' := [_, _, _]) 0 ty67 rfl rfl rfl rfl rfl rfl rfl rfl) rfl rfl fun _ => RS.nil (hK2 _ _ (cq [(0, _), (5, _)] ?_))))
 refine T.seq fun K3 hK3 => ?_
 refine T.drawn (fun _ => True) [(0, .pu), (1, .pu), (2, .pu), (3, .rd), (4, .pu), (5, .pu), (6, .rd), (7, .pu), (8, .pu), (9, .pu), (10, .rd), (11, .pu), (12, .pu), (13, .pu), (14, .rd), (15, .pu), (16, .rd), (17, .pu), (18, .rd), (19, .rd), (20, .pu), (21, .pu), (22, .pu), (23, .rd), (24, .pu), (25, .pu), (26, .rd), (27, .pu), (28, .pu), (29, .pu), (30, .rd), (31, .pu), (32, .pu), (33, .pu), (34, .rd), (35, .pu), (36, .rd), (37, .pu), (38, .rd), (39, .rd), (40, .pu), (41, .pu), (42, .pu)] mixed (ClE.sat _ _) (by kernel_rfl) ?_
 refine dp rfl (Pu.move rfl) (dp rfl (Pu.nilCheck rfl) (dp rfl (Pu.fieldAddr fd153_0 rfl) (dq rfl (Qt.ldX ty98 rfl hb0 (fun w s => s.ext) rfl) (dp rfl (Pu.nilCheck rfl) (dp rfl (Pu.fieldAddr fd101_1 rfl) (dq rfl (Qt.ldX ty3 rfl hn1 (fun w s => s.ext) rfl) (dp rfl (Pu.move rfl) (dp rfl (Pu.nilCheck rfl) (dp rfl (Pu.fieldAddr fd153_0 rfl) (dq rfl (Qt.ldX ty98 rfl hb0 (fun w s => s.ext) rfl) (dp rfl (Pu.nilCheck rfl) (dp rfl (Pu.fieldAddr fd101_0 rfl) (dp rfl (Pu.fieldAddr fd36_2 rfl) ?_)))))))))))))
 refine dq rfl (Qt.ldX ty34 rfl hn1 (fun w s => s.ext) rfl) (dp rfl (Pu.fieldAddr fd67_0 rfl) (dq rfl (Qt.ldB 0 ty3 rfl rfl rfl) ?_))
 obtain ⟨g5, H⟩ := gdE H
 obtain ⟨bl6, ol7, rfl⟩ := R_ptr h0 (ne_of_pos (pos_of g5))
 refine dp rfl (Pu.indexSl sl34 rfl rfl g5) (dq rfl (Qt.ld0 (α := UInt8) (Rd.base h0) ty5 rfl rfl g5 (by rintro _ _ rfl; rfl)) ?_)
 obtain ⟨x8, hx8, H⟩ := bindE H
 refine dq rfl (Qt.call (vs := [.int .i64 a0_m.net.cls, .int .u8 ((gi a0_m.net.g.tiles ((gi a0_m.ps a1_k).a)).toNat : Int)]) ent135 rfl fun w s => kind_Price_walk a0_m.net.cls ((gi a0_m.net.g.tiles ((gi a0_m.ps a1_k).a)).toNat : Int) w  hx8) (dp rfl (Pu.move rfl) (dp rfl (Pu.nilCheck rfl) (dp rfl (Pu.fieldAddr fd153_0 rfl) (dq rfl (Qt.ldX ty98 rfl hb0 (fun w s => s.ext) rfl) (dp rfl (Pu.nilCheck rfl) (dp rfl (Pu.fieldAddr fd101_1 rfl) (dq rfl (Qt.ldX ty3 rfl hn1 (fun w s => s.ext) rfl) (dp rfl (Pu.move rfl) (dp rfl (Pu.nilCheck rfl) (dp rfl (Pu.fieldAddr fd153_0 rfl) (dq rfl (Qt.ldX ty98 rfl hb0 (fun w s => s.ext) rfl) (dp rfl (Pu.nilCheck rfl) (dp rfl (Pu.fieldAddr fd101_0 rfl) ?_)))))))))))))
 refine dp rfl (Pu.fieldAddr fd36_2 rfl) (dq rfl (Qt.ldX ty34 rfl hn1 (fun w s => s.ext) rfl) (dp rfl (Pu.fieldAddr fd67_1 rfl) (dq rfl (Qt.ldB 0 ty3 rfl rfl rfl) ?_)))
 obtain ⟨g9, H⟩ := gdE H
 refine dp rfl (Pu.indexSl sl34 rfl rfl g9) (dq rfl (Qt.ld0 (α := UInt8) (Rd.base h0) ty5 rfl rfl g9 (by rintro _ _ rfl; rfl)) ?_)
 obtain ⟨x10, hx10, H⟩ := bindE H
 refine dq rfl (Qt.call (vs := [.int .i64 a0_m.net.cls, .int .u8 ((gi a0_m.net.g.tiles ((gi a0_m.ps a1_k).b)).toNat : Int)]) ent135 rfl fun w s => kind_Price_walk a0_m.net.cls ((gi a0_m.net.g.tiles ((gi a0_m.ps a1_k).b)).toNat : Int) w  hx10) ?_
 obtain ⟨g11, H⟩ := gdE H
 refine dp rfl (Pu.addS rfl rfl g11) ?_
 obtain ⟨g12, H⟩ := gdE H
 refine dp rfl (Pu.mulS rfl rfl g12) (dp rfl (Pu.assign rfl) (RD.nil (hK3 _ _ (cq [(4, _)] ?_))))
 obtain rfl := sj H
 refine T.rt (Cont.ret1 rfl rfl fun w' s => ?_)
 exact ⟨rfl, s.ext⟩
theorem route_maze_sectors_walk (a0_m : Mz) (a1_start : Int) (a2_l : List Int) (w : World) {z0 z1 : Value} {v0 v1 v2 v3 : Value} {n1g p0g : Nat} (hb0 : blk p0g [.pointer (some ⟨n1g, 0, none⟩), v2, z0, z1] 153 (hpOf w)) (hn1 : blk n1g [.int .i64 a0_m.net.g.w, .int .i64 a0_m.net.g.h, v0, .int .i64 a0_m.net.cls, v1] 101 (hpOf w)) (h0 : R (hpOf w) a0_m.net.g.tiles [v0]) (h1 : R (hpOf w) a0_m.net.free [v1]) (h2 : R (hpOf w) a0_m.ps [v2]) (h3 : R (hpOf w) a2_l [v3]) {r : List Int} (H : route_maze_sectors a0_m a1_start a2_l = some r) : Calls Tryz.prog 58 #[.pointer (some ⟨p0g, 0, none⟩), .int .i64 a1_start, v3] w fun e w' => ∃ q1 : (Option Nat × Nat), e = .returned (rowV q1 r.length) ∧ Sat w [row nilH 3 (rowV q1 r.length) r] w' := by
 have hm0 := R_max h0
 obtain ⟨p0, c0, rfl⟩ := R_form h0
 have hm1 := R_max h1
 obtain ⟨p1, c1, rfl⟩ := R_form h1
 have hm2 := R_max h2
 obtain ⟨p2, c2, rfl⟩ := R_form h2
 have hm3 := R_max h3
 obtain ⟨p3, c3, rfl⟩ := R_form h3
 unfold route_maze_sectors at H
 refine T.enter (args := [_, _, _]) (S := Sat w []) Tryz.func58 rfl rfl (Sat.start w) ?_
 refine T.seq fun K1 hK1 => T.region (rA rfl (RS.nil (hK1 _ _ ?_)))
 refine T.seq fun K2 hK2 => T.region (rM rfl (rp (Pu.nilCheck rfl) (rp (Pu.fieldAddr fd153_0 rfl) (rq (Qt.ldX ty98 rfl hb0 (fun w s => s.ext) rfl) (rp (Pu.nilCheck rfl) (rp (Pu.fieldAddr fd101_0 rfl) (rp (Pu.fieldAddr fd36_0 rfl) (rq (Qt.ldX ty3 rfl hn1 (fun w s => s.ext) rfl) (rM rfl ?_)))))))))
 obtain ⟨x1, hx1, H⟩ := bindE H
 refine rq (Qt.call (vs := [.int .i64 a0_m.net.g.w, .int .i64 a1_start]) ent87 rfl fun w s => sector_At_walk a0_m.net.g.w a1_start w  hx1) (rA rfl (RS.nil (hK2 _ _ (cq [(0, _), (2, _), (7, _)] ?_))))
 refine T.seq fun K3 hK3 => T.region (rM rfl (RS.solid (Sd.litS (cs := [_]) sl23 zr3 rfl rfl rfl rfl rfl) rfl rfl fun b2 => ?_))
 refine RS.weakS (fun w s => s.litRow (α := Int) (n := 1) 0 [x1] rfl (by decide) rfl ⟨[_], _, rfl, rfl, rfl⟩) ?_
 refine rA rfl (RS.nil (hK3 _ _ ?_))
 refine T.seq fun K4 hK4 => T.seq fun K5 hK5 => T.region (rM rfl (rp (Pu.lenSl sl23 rfl) (rM rfl (RS.nil (hK5 _ _ (cq [(0, _), (7, _), (8, _), (26, _), (27, _), (28, _)] ?_))))))
 refine T.joinE (σ := List Int) (γ := (Option Nat × Nat)) H (fun s => s) [] trivial (fun v4 q5 => [(8, rowV q5 v4.length)]) (fun v4 q5 => Sat w [row nilH 3 (rowV q5 v4.length) v4]) ?_ ?_
 ·rintro v4 q5 H
  try dsimp only [Ex.then] at H
  refine Cont.conseq (fr' := [(8, _)]) ?_ ⟨rfl, trivial⟩ (fun _ s => s)
  refine id (hK4 _ _ ?_)
  refine T.seq fun K6 hK6 => T.region (rM rfl (rA rfl (RS.nil (hK6 _ _ ?_))))
  obtain rfl := sj H
  refine T.rt (Cont.ret1 rfl rfl fun w' s => ?_)
  exact ⟨q5, rfl, s.pick [0] (by decide) rfl⟩
 ·intro z3 hz3 HX3 hJ3
  refine T.block ?_
  refine T.know (fun w s => (s.row_fits (q := (some b2, 1)) (m := 1) (k := 0) rfl)) fun hf10 => ?_
  refine T.loopA (γ := (Option Nat × Nat)) hz3 [(0, _), (26, _), (27, _)] (fun (v6, v7, l8) q9 => [(7, .int .i64 v6), (8, rowV q9 l8.length), (28, .int .i64 v7)]) (fun (v6, v7, l8) q9 => Sat w [row nilH 3 (rowV q9 l8.length) l8]) (some b2, 1) ⟨rfl, rfl, rfl, trivial⟩ ⟨rfl, veqN (q := (some b2, 1)) hf10.1, rfl, trivial⟩ (fun w s => (Sat.relen (q := (some b2, 1)) (m := 1) 0 s rfl).pick [0] (by decide) rfl) ?_
  rintro ⟨v6, v7, l8⟩ q9 y11 H hd3 KL3 hL3
  try dsimp only [Ex.then] at H
  refine cq [(7, _), (8, _), (28, _), (0, _), (26, _), (27, _)] ?_
  refine T.seq fun K7 hK7 => T.region (rp (Pu.bin rfl rfl rfl) (RS.nil (hK7 _ _ ?_)))
  refine T.seq fun K8 hK8 => ?_
  refine T.condP rfl (fun hc12 => ?_) (fun hc12 => ?_)
  ·have H := ifT hc12 H
   refine T.skip (hK8 _ _ ?_)
   refine T.seq fun K9 hK9 => T.block (T.seq fun K10 hK10 => T.region ?_)
   obtain ⟨g13, H⟩ := gdE H
   obtain ⟨bl14, ol15, rfl⟩ := R_ptr h3 (ne_of_pos (pos_of g13))
   refine rp (Pu.indexSl sl23 rfl rfl g13) (rq (Qt.ld0 (α := Int) (Rd.base h3) ty3 rfl rfl g13 (by rintro _ _ rfl; rfl)) (rA rfl (RS.nil (hK10 _ _ (cq [(0, _), (7, _), (8, _), (10, _), (26, _), (27, _), (28, _)] ?_)))))
   refine T.seq fun K11 hK11 => T.region (rM rfl (rp (Pu.nilCheck rfl) (rp (Pu.fieldAddr fd153_1 rfl) (rq (Qt.ldX ty62 rfl hb0 (fun w s => s.ext) rfl) (rM rfl ?_)))))
   obtain ⟨g16, H⟩ := gdE H
   obtain ⟨bl17, ol18, rfl⟩ := R_ptr h2 (ne_of_pos (pos_of g16))
   refine rp (Pu.indexSl sl62 rfl rfl g16) (rq (Qt.ldW (α := Prt) (cs := [_, _, _]) (Rd.base h2) ty67 rfl rfl g16 rfl (by rintro _ _ rfl; rfl)) (RS.solid (Sd.alloc zr67 rfl) rfl rfl fun b19 => RS.solid (Sd.stB (cs' := [_, _, _]) 1 ty67 rfl rfl rfl rfl rfl rfl rfl rfl) rfl rfl fun _ => RS.nil (hK11 _ _ (cq [(0, _), (7, _), (8, _), (11, _), (26, _), (27, _), (28, _)] ?_))))
   refine T.seq fun K12 hK12 => ?_
   refine T.drawn (fun _ => True) [(0, .pu), (1, .pu), (2, .pu), (3, .rd), (4, .pu), (5, .pu), (6, .pu), (7, .rd), (8, .pu), (9, .rd), (10, .rd), (11, .pu), (12, .pu), (13, .pu), (14, .rd), (15, .pu), (16, .pu), (17, .pu), (18, .rd), (19, .pu), (20, .rd), (21, .rd), (22, .pu), (23, .pu)] mixed (ClE.sat _ _) (by kernel_rfl) ?_
   refine dp rfl (Pu.move rfl) (dp rfl (Pu.nilCheck rfl) (dp rfl (Pu.fieldAddr fd153_0 rfl) (dq rfl (Qt.ldX ty98 rfl hb0 (fun w s => s.ext) rfl) (dp rfl (Pu.nilCheck rfl) (dp rfl (Pu.fieldAddr fd101_0 rfl) (dp rfl (Pu.fieldAddr fd36_0 rfl) (dq rfl (Qt.ldX ty3 rfl hn1 (fun w s => s.ext) rfl) (dp rfl (Pu.fieldAddr fd67_0 rfl) (dq rfl (Qt.ldB 1 ty3 rfl rfl rfl) ?_)))))))))
   obtain ⟨x20, hx20, H⟩ := bindE H
   refine dq rfl (Qt.call (vs := [.int .i64 a0_m.net.g.w, .int .i64 ((gi a0_m.ps (gi a2_l v7)).a)]) ent87 rfl fun w s => sector_At_walk a0_m.net.g.w ((gi a0_m.ps (gi a2_l v7)).a) w  hx20) (dp rfl (Pu.move rfl) (dp rfl (Pu.nilCheck rfl) (dp rfl (Pu.fieldAddr fd153_0 rfl) (dq rfl (Qt.ldX ty98 rfl hb0 (fun w s => s.ext) rfl) (dp rfl (Pu.nilCheck rfl) (dp rfl (Pu.fieldAddr fd101_0 rfl) (dp rfl (Pu.fieldAddr fd36_0 rfl) (dq rfl (Qt.ldX ty3 rfl hn1 (fun w s => s.ext) rfl) (dp rfl (Pu.fieldAddr fd67_1 rfl) (dq rfl (Qt.ldB 1 ty3 rfl rfl rfl) ?_))))))))))
   obtain ⟨x21, hx21, H⟩ := bindE H
   refine dq rfl (Qt.call (vs := [.int .i64 a0_m.net.g.w, .int .i64 ((gi a0_m.ps (gi a2_l v7)).b)]) ent87 rfl fun w s => sector_At_walk a0_m.net.g.w ((gi a0_m.ps (gi a2_l v7)).b) w  hx21) (dp rfl (Pu.assign rfl) (dp rfl (Pu.assign rfl) (RD.nil (hK12 _ _ (cq [(0, _), (7, _), (8, _), (12, _), (13, _), (26, _), (27, _), (28, _)] ?_)))))
   refine T.seq fun K13 hK13 => T.seq fun K14 hK14 => T.region (rM rfl (rM rfl (rp (Pu.bin rfl rfl rfl) (RS.nil (hK14 _ _ ?_)))))
   refine T.condP rfl (fun hc22 => ?_) (fun hc22 => ?_)
   ·have H := ifT hc22 H
    refine cq [(0, _), (8, _), (13, _), (26, _), (27, _), (28, _)] ?_
    refine T.region (rM rfl (rA rfl (RS.nil (hK13 _ _ ?_))))
    refine T.region (rM rfl (rM rfl (RS.solid (Sd.litS (cs := [_]) sl23 zr3 rfl rfl rfl rfl rfl) rfl rfl fun b23 => ?_)))
    obtain ⟨g25, H⟩ := gdE H
    refine RS.solid (Sd.app1c (α := Int) 0 2 x21 rfl rfl (nilH_lt _) sl23 zr3 rfl rfl rfl rfl g25 (by decide)) rfl rfl fun q24 => rA rfl (RS.nil (hK9 _ _ (cq [(0, _), (7, _), (8, _), (26, _), (27, _), (28, _)] ?_)))
    refine T.region ?_
    obtain ⟨g26, H⟩ := gdE H
    refine rp (Pu.addS rfl rfl g26) (rM rfl (RS.nil (hL3 _ _ (x21, (v7 + 1), (l8 ++ [x21])) q24 H ⟨rfl, rfl, rfl, trivial⟩ ⟨rfl, rfl, rfl, trivial⟩ (fun w s => s.pick [0] (by decide) rfl))))
   ·have H := ifF hc22 H
    refine cq [(0, _), (8, _), (12, _), (26, _), (27, _), (28, _)] ?_
    refine T.region (rM rfl (rA rfl (RS.nil (hK13 _ _ ?_))))
    refine T.region (rM rfl (rM rfl (RS.solid (Sd.litS (cs := [_]) sl23 zr3 rfl rfl rfl rfl rfl) rfl rfl fun b27 => ?_)))
    obtain ⟨g29, H⟩ := gdE H
    refine RS.solid (Sd.app1c (α := Int) 0 2 x20 rfl rfl (nilH_lt _) sl23 zr3 rfl rfl rfl rfl g29 (by decide)) rfl rfl fun q28 => rA rfl (RS.nil (hK9 _ _ (cq [(0, _), (7, _), (8, _), (26, _), (27, _), (28, _)] ?_)))
    refine T.region ?_
    obtain ⟨g30, H⟩ := gdE H
    refine rp (Pu.addS rfl rfl g30) (rM rfl (RS.nil (hL3 _ _ (x20, (v7 + 1), (l8 ++ [x20])) q28 H ⟨rfl, rfl, rfl, trivial⟩ ⟨rfl, rfl, rfl, trivial⟩ (fun w s => s.pick [0] (by decide) rfl))))
  ·have H := ifF hc12 H
   obtain rfl := hd3 _ H
   refine T.xt (hJ3 _ _ l8 q9 HX3 trivial ⟨rfl, trivial⟩ (fun w s => s))
end Go.Proofs.YthdbofgcckjopaaGreat
