/-
  Walks of what the statements of the portals call.
-/
import Derived.Test.YtddicdmleeaihaaRows
import Derived.Test.YtddicdmleeaihaaPQG
set_option linter.unusedVariables false
set_option linter.unusedSimpArgs false
set_option maxRecDepth 20000
set_option maxHeartbeats 4000000
namespace Go.Proofs.Ytddicdmleeaihaa
open Go.Vg
open Enc (R)
open Sp
theorem ent11 : Ent Try.prog 11 := ⟨_, _, Try.func11, by kernel_rfl, rfl⟩
theorem ent12 : Ent Try.prog 12 := ⟨_, _, Try.func12, by kernel_rfl, rfl⟩
theorem ent13 : Ent Try.prog 13 := ⟨_, _, Try.func13, by kernel_rfl, rfl⟩
theorem ent19 : Ent Try.prog 19 := ⟨_, _, Try.func19, by kernel_rfl, rfl⟩
theorem ent20 : Ent Try.prog 20 := ⟨_, _, Try.func20, by kernel_rfl, rfl⟩
theorem ent21 : Ent Try.prog 21 := ⟨_, _, Try.func21, by kernel_rfl, rfl⟩
theorem ent23 : Ent Try.prog 23 := ⟨_, _, Try.func23, by kernel_rfl, rfl⟩
theorem ent24 : Ent Try.prog 24 := ⟨_, _, Try.func24, by kernel_rfl, rfl⟩
theorem ent25 : Ent Try.prog 25 := ⟨_, _, Try.func25, by kernel_rfl, rfl⟩
theorem ent27 : Ent Try.prog 27 := ⟨_, _, Try.func27, by kernel_rfl, rfl⟩
theorem ent29 : Ent Try.prog 29 := ⟨_, _, Try.func29, by kernel_rfl, rfl⟩
theorem ent31 : Ent Try.prog 31 := ⟨_, _, Try.func31, by kernel_rfl, rfl⟩
theorem ent32 : Ent Try.prog 32 := ⟨_, _, Try.func32, by kernel_rfl, rfl⟩
theorem eqt40 : eqTy Try.prog 40 = some [0, 1, 2] := by kernel_rfl
theorem fd25_0 : fdOff Try.prog 25 0 = some 0 := by kernel_rfl
theorem fd25_1 : fdOff Try.prog 25 1 = some 1 := by kernel_rfl
theorem fd25_2 : fdOff Try.prog 25 2 = some 2 := by kernel_rfl
theorem fd40_0 : fdOff Try.prog 40 0 = some 0 := by kernel_rfl
theorem fd40_1 : fdOff Try.prog 40 1 = some 1 := by kernel_rfl
theorem sl27 : slTy Try.prog 27 = some (40, 3, 24) := by kernel_rfl
theorem st40 : stTy Try.prog 40 = some ([.int .i64 0, .int .i64 0, .int .i64 0], [(0, 1), (1, 1), (2, 1)]) := by kernel_rfl
theorem ty22 : tySz Try.prog 22 = some (1, false) := by kernel_rfl
theorem ty40 : tySz Try.prog 40 = some (3, true) := by kernel_rfl
theorem zr40 : zeroOf Try.prog 40 = some (.agg #[.int .i64 0, .int .i64 0, .int .i64 0]) := by kernel_rfl
theorem ground_Side_walk (a0_n : Int) (w : World) {r : Bool} (H : ground_Side a0_n = some r) : Calls Try.prog 30 #[.int .i64 a0_n] w fun e w' => e = .returned (.bool r) ∧ Ext w w' := by
 unfold ground_Side at H
 refine T.enter (args := [_]) (S := Sat w []) Try.func30 rfl rfl (Sat.start w) ?_
 refine T.seq fun K1 hK1 => ?_
 refine T.region ?_
 refine RS.p (Pu.assign rfl) rfl rfl ?_
 refine RS.nil (hK1 _ _ ?_)
 refine T.seq fun K2 hK2 => ?_
 refine T.region ?_
 refine RS.p (Pu.move rfl) rfl rfl ?_
 refine RS.p (Pu.bin rfl rfl rfl) rfl rfl ?_
 refine RS.p (Pu.move rfl) rfl rfl ?_
 refine RS.joinV 3 8 (.bool (decide ((1 ≤ a0_n) ∧ (a0_n ≤ 128)))) [(2, _)] ⟨rfl, trivial⟩ ?_ ?_
 ·refine RS.p (Pu.assign rfl) rfl rfl ?_
  refine RS.nil (hK2 _ _ ?_)
  obtain rfl := Option.some.inj H
  refine T.rt (Cont.ret1 rfl rfl fun w' s => ?_)
  exact ⟨rfl, s.ext⟩
 ·intro hJ2
  refine RS.splitP 5 rfl (fun hc1 => ?_) (fun hc1 => ?_)
  ·refine RS.p (Pu.move rfl) rfl rfl ?_
   refine RS.p (Pu.bin rfl rfl rfl) rfl rfl ?_
   refine RS.p (Pu.pickT rfl rfl) rfl rfl ?_
   exact hJ2 _ _ ⟨dAndT hc1, rfl, trivial⟩ (fun w s => s)
  ·refine RS.no rfl rfl ?_
   refine RS.no rfl rfl ?_
   refine RS.p (Pu.pickF rfl rfl) rfl rfl ?_
   exact hJ2 _ _ ⟨dAndF hc1, rfl, trivial⟩ (fun w s => s)
theorem sector_May_walk (a0_w : Int) (a1_h : Int) (w : World) {r : Bool} (H : sector_May a0_w a1_h = some r) : Calls Try.prog 22 #[.int .i64 a0_w, .int .i64 a1_h] w fun e w' => e = .returned (.bool r) ∧ Ext w w' := by
 unfold sector_May at H
 refine T.enter (args := [_, _]) (S := Sat w []) Try.func22 rfl rfl (Sat.start w) ?_
 refine T.seq fun K1 hK1 => ?_
 refine T.region ?_
 refine RS.p (Pu.assign rfl) rfl rfl ?_
 refine RS.nil (hK1 _ _ ?_)
 refine T.seq fun K2 hK2 => ?_
 refine T.region ?_
 refine RS.p (Pu.move rfl) rfl rfl ?_
 obtain ⟨x1, hx1, H⟩ := bindE H
 refine RS.q (Qt.call (vs := [.int .i64 a0_w]) ent30 rfl fun w s => ground_Side_walk a0_w w  hx1) rfl rfl ?_
 refine RS.p (Pu.move rfl) rfl rfl ?_
 refine RS.joinB H 3 10 (fun b4 => .bool b4) [(4, _)] ⟨rfl, trivial⟩ ?_ ?_
 ·intro b4 H
  refine RS.p (Pu.assign rfl) rfl rfl ?_
  refine RS.nil (hK2 _ _ ?_)
  obtain rfl := Option.some.inj H
  refine T.rt (Cont.ret1 rfl rfl fun w' s => ?_)
  exact ⟨rfl, s.ext⟩
 ·intro z5 H hJ3
  refine RS.split 7 rfl (fun hc2 => ?_) (fun hc2 => ?_)
  ·have H := ifT hc2 H
   refine RS.p (Pu.move rfl) rfl rfl ?_
   obtain ⟨x6, hx6, H⟩ := bindE H
   refine RS.q (Qt.call (vs := [.int .i64 a1_h]) ent30 rfl fun w s => ground_Side_walk a1_h w  hx6) rfl rfl ?_
   refine RS.p (Pu.pickT rfl rfl) rfl rfl ?_
   obtain rfl := Option.some.inj H
   exact hJ3 _ _ ⟨rfl, rfl, trivial⟩ (fun w s => s)
  ·have H := ifB hc2 H
   refine RS.no rfl rfl ?_
   refine RS.no rfl rfl ?_
   refine RS.p (Pu.pickF rfl rfl) rfl rfl ?_
   obtain rfl := Option.some.inj H
   exact hJ3 _ _ ⟨rfl, rfl, trivial⟩ (fun w s => s)
theorem sector_across_walk (a0_n : Int) (w : World) {r : Int} (H : sector_across a0_n = some r) : Calls Try.prog 26 #[.int .i64 a0_n] w fun e w' => e = .returned (.int .i64 r) ∧ Ext w w' := by
 unfold sector_across at H
 refine T.enter (args := [_]) (S := Sat w []) Try.func26 rfl rfl (Sat.start w) ?_
 refine T.seq fun K1 hK1 => ?_
 refine T.region ?_
 refine RS.p (Pu.assign rfl) rfl rfl ?_
 refine RS.nil (hK1 _ _ ?_)
 refine T.seq fun K2 hK2 => ?_
 refine T.region ?_
 refine RS.p (Pu.move rfl) rfl rfl ?_
 obtain ⟨g1, H⟩ := gdE H
 refine RS.p (Pu.addS rfl rfl g1) rfl rfl ?_
 obtain ⟨g2, H⟩ := gdE H
 refine RS.p (Pu.subS rfl rfl g2) rfl rfl ?_
 obtain ⟨g3, H⟩ := gdE H
 refine RS.p (Pu.quoN rfl rfl ⟨g3.1, g3.2, by decide⟩) rfl rfl ?_
 refine RS.p (Pu.assign rfl) rfl rfl ?_
 refine RS.nil (hK2 _ _ (T.conseq (fr' := [(2, _)]) ?_ ⟨rfl, trivial⟩ (fun _ s => s)))
 obtain rfl := Option.some.inj H
 refine T.rt (Cont.ret1 rfl rfl fun w' s => ?_)
 exact ⟨rfl, s.ext⟩
theorem sector_At_walk (a0_w : Int) (a1_t : Int) (w : World) {r : Int} (H : sector_At a0_w a1_t = some r) : Calls Try.prog 36 #[.int .i64 a0_w, .int .i64 a1_t] w fun e w' => e = .returned (.int .i64 r) ∧ Ext w w' := by
 unfold sector_At at H
 refine T.enter (args := [_, _]) (S := Sat w []) Try.func36 rfl rfl (Sat.start w) ?_
 refine T.seq fun K1 hK1 => ?_
 refine T.region ?_
 refine RS.p (Pu.assign rfl) rfl rfl ?_
 refine RS.nil (hK1 _ _ ?_)
 refine T.seq fun K2 hK2 => ?_
 refine T.drawn (fun _ => True) [(0, .pu), (1, .pu), (2, .pu), (3, .pu), (4, .pu), (5, .rd), (6, .pu), (7, .pu), (8, .pu), (9, .pu), (10, .pu), (11, .pu), (12, .pu)] mixed (ClE.sat _ _) (by kernel_rfl) ?_
 refine RD.p (fun _ _ => trivial) rfl (Pu.move rfl) rfl rfl ?_
 refine RD.p (fun _ _ => trivial) rfl (Pu.move rfl) rfl rfl ?_
 obtain ⟨g1, H⟩ := gdE H
 refine RD.p (fun _ _ => trivial) rfl (Pu.remN rfl rfl (and3 g1)) rfl rfl ?_
 obtain ⟨g2, H⟩ := gdE H
 refine RD.p (fun _ _ => trivial) rfl (Pu.quoN rfl rfl ⟨g2.1, g2.2, by decide⟩) rfl rfl ?_
 refine RD.p (fun _ _ => trivial) rfl (Pu.move rfl) rfl rfl ?_
 obtain ⟨x3, hx3, H⟩ := bindE H
 refine RD.q (fun _ _ => trivial) rfl (Qt.call (vs := [.int .i64 a0_w]) ent26 rfl fun w s => sector_across_walk a0_w w  hx3) rfl rfl ?_
 refine RD.p (fun _ _ => trivial) rfl (Pu.move rfl) rfl rfl ?_
 refine RD.p (fun _ _ => trivial) rfl (Pu.move rfl) rfl rfl ?_
 obtain ⟨g4, H⟩ := gdE H
 refine RD.p (fun _ _ => trivial) rfl (Pu.quoN rfl rfl g4) rfl rfl ?_
 obtain ⟨g5, H⟩ := gdE H
 refine RD.p (fun _ _ => trivial) rfl (Pu.quoN rfl rfl ⟨g5.1, g5.2, by decide⟩) rfl rfl ?_
 obtain ⟨g6, H⟩ := gdE H
 refine RD.p (fun _ _ => trivial) rfl (Pu.mulS rfl rfl g6) rfl rfl ?_
 obtain ⟨g7, H⟩ := gdE H
 refine RD.p (fun _ _ => trivial) rfl (Pu.addS rfl rfl g7) rfl rfl ?_
 refine RD.p (fun _ _ => trivial) rfl (Pu.assign rfl) rfl rfl ?_
 refine RD.nil (hK2 _ _ (T.conseq (fr' := [(4, _)]) ?_ ⟨rfl, trivial⟩ (fun _ s => s)))
 obtain rfl := Option.some.inj H
 refine T.rt (Cont.ret1 rfl rfl fun w' s => ?_)
 exact ⟨rfl, s.ext⟩
theorem sector_Of_walk (a0_w : Int) (a1_h : Int) (a2_t : Int) (w : World) {r : Int × Int} (H : sector_Of a0_w a1_h a2_t = some r) : Calls Try.prog 24 #[.int .i64 a0_w, .int .i64 a1_h, .int .i64 a2_t] w fun e w' => e = .returned (.tuple #[.int .i64 r.1, .int .i64 r.2]) ∧ Ext w w' := by
 unfold sector_Of at H
 refine T.enter (args := [_, _, _]) (S := Sat w []) Try.func24 rfl rfl (Sat.start w) ?_
 refine T.seq fun K1 hK1 => ?_
 refine T.region ?_
 refine RS.p (Pu.assign rfl) rfl rfl ?_
 refine RS.p (Pu.assign rfl) rfl rfl ?_
 refine RS.nil (hK1 _ _ ?_)
 refine T.seq fun K2 hK2 => ?_
 refine T.block ?_
 refine T.seq fun K3 hK3 => ?_
 refine T.region ?_
 refine RS.p (Pu.move rfl) rfl rfl ?_
 refine RS.p (Pu.move rfl) rfl rfl ?_
 obtain ⟨x1, hx1, H⟩ := bindE H
 refine RS.q (Qt.call (vs := [.int .i64 a0_w, .int .i64 a1_h]) ent22 rfl fun w s => sector_May_walk a0_w a1_h w  hx1) rfl rfl ?_
 refine RS.p (Pu.not rfl) rfl rfl ?_
 refine RS.p (Pu.assign rfl) rfl rfl ?_
 refine RS.nil (hK3 _ _ ?_)
 refine T.cond rfl (fun hc2 => ?_) (fun hc2 => ?_)
 ·have H := ifT hc2 H
  refine T.conseq (fr' := []) ?_ trivial (fun _ s => s)
  refine T.seq fun K4 hK4 => ?_
  refine T.region ?_
  refine RS.p (Pu.assign rfl) rfl rfl ?_
  refine RS.p (Pu.assign rfl) rfl rfl ?_
  refine RS.nil (hK4 _ _ ?_)
  obtain rfl := Option.some.inj H
  refine T.rt (Cont.ret2 rfl rfl rfl fun w' s => ?_)
  exact ⟨rfl, s.ext⟩
 ·have H := ifB hc2 H
  refine T.conseq (fr' := [(0, _), (1, _), (2, _)]) ?_ ⟨rfl, rfl, rfl, trivial⟩ (fun _ s => s)
  refine T.seq fun K5 hK5 => ?_
  refine T.region ?_
  refine RS.p (Pu.move rfl) rfl rfl ?_
  refine RS.p (Pu.bin rfl rfl rfl) rfl rfl ?_
  refine RS.p (Pu.move rfl) rfl rfl ?_
  obtain ⟨g5, H⟩ := gdE H
  refine RS.joinV 6 22 (.bool (decide ((a2_t < 0) ∨ ((a0_w * a1_h) ≤ a2_t)))) [(0, _), (2, _)] ⟨rfl, rfl, trivial⟩ ?_ ?_
  ·refine RS.p (Pu.assign rfl) rfl rfl ?_
   refine RS.nil (hK5 _ _ ?_)
   refine T.condP rfl (fun hc6 => ?_) (fun hc6 => ?_)
   ·have H := ifT hc6 H
    refine T.conseq (fr' := []) ?_ trivial (fun _ s => s)
    refine T.seq fun K6 hK6 => ?_
    refine T.region ?_
    refine RS.p (Pu.assign rfl) rfl rfl ?_
    refine RS.p (Pu.assign rfl) rfl rfl ?_
    refine RS.nil (hK6 _ _ ?_)
    obtain rfl := Option.some.inj H
    refine T.rt (Cont.ret2 rfl rfl rfl fun w' s => ?_)
    exact ⟨rfl, s.ext⟩
   ·have H := ifF hc6 H
    refine T.skip (hK2 _ _ ?_)
    refine T.seq fun K7 hK7 => ?_
    refine T.region ?_
    refine RS.p (Pu.move rfl) rfl rfl ?_
    refine RS.p (Pu.move rfl) rfl rfl ?_
    obtain ⟨x7, hx7, H⟩ := bindE H
    refine RS.q (Qt.call (vs := [.int .i64 a0_w, .int .i64 a2_t]) ent36 rfl fun w s => sector_At_walk a0_w a2_t w  hx7) rfl rfl ?_
    refine RS.p (Pu.assign rfl) rfl rfl ?_
    refine RS.p (Pu.assign rfl) rfl rfl ?_
    refine RS.nil (hK7 _ _ (T.conseq (fr' := [(6, _), (7, _)]) ?_ ⟨rfl, rfl, trivial⟩ (fun _ s => s)))
    obtain rfl := Option.some.inj H
    refine T.rt (Cont.ret2 rfl rfl rfl fun w' s => ?_)
    exact ⟨rfl, s.ext⟩
  ·intro hJ4
   refine RS.splitP 16 rfl (fun hc3 => ?_) (fun hc3 => ?_)
   ·refine RS.no rfl rfl ?_
    refine RS.no rfl rfl ?_
    refine RS.no rfl rfl ?_
    refine RS.no rfl rfl ?_
    refine RS.no rfl rfl ?_
    refine RS.p (Pu.pickT rfl rfl) rfl rfl ?_
    exact hJ4 _ _ ⟨dOrT hc3, rfl, rfl, trivial⟩ (fun w s => s)
   ·refine RS.p (Pu.move rfl) rfl rfl ?_
    refine RS.p (Pu.move rfl) rfl rfl ?_
    refine RS.p (Pu.move rfl) rfl rfl ?_
    refine RS.p (Pu.mulS rfl rfl (g5 hc3)) rfl rfl ?_
    refine RS.p (Pu.bin rfl rfl rfl) rfl rfl ?_
    refine RS.p (Pu.pickF rfl rfl) rfl rfl ?_
    exact hJ4 _ _ ⟨dOrF hc3, rfl, rfl, trivial⟩ (fun w s => s)
theorem throngref0_EqBools_walk (a0_a : List Bool) (a1_b : List Bool) (w : World) {v0 v1 : Value} (h0 : R (hpOf w) a0_a [v0]) (h1 : R (hpOf w) a1_b [v1]) {r : Bool} (H : throngref0_EqBools a0_a a1_b = some r) : Calls Try.prog 14 #[v0, v1] w fun e w' => e = .returned (.bool r) ∧ Ext w w' := by
 have hm0 := R_max h0
 obtain ⟨p0, c0, rfl⟩ := R_form h0
 have hm1 := R_max h1
 obtain ⟨p1, c1, rfl⟩ := R_form h1
 unfold throngref0_EqBools at H
 refine T.enter (args := [_, _]) (S := Sat w []) Try.func14 rfl rfl (Sat.start w) ?_
 refine T.seq fun K1 hK1 => ?_
 refine T.region ?_
 refine RS.p (Pu.assign rfl) rfl rfl ?_
 refine RS.nil (hK1 _ _ ?_)
 refine T.seq fun K2 hK2 => ?_
 refine T.seq fun K3 hK3 => ?_
 refine T.region ?_
 refine RS.p (Pu.move rfl) rfl rfl ?_
 refine RS.p (Pu.lenSl sl22 rfl) rfl rfl ?_
 refine RS.p (Pu.move rfl) rfl rfl ?_
 refine RS.p (Pu.lenSl sl22 rfl) rfl rfl ?_
 refine RS.p (Pu.bin rfl rfl rfl) rfl rfl ?_
 refine RS.nil (hK3 _ _ ?_)
 refine T.condP rfl (fun hc1 => ?_) (fun hc1 => ?_)
 ·have H := ifT hc1 H
  refine T.conseq (fr' := []) ?_ trivial (fun _ s => s)
  refine T.seq fun K4 hK4 => ?_
  refine T.region ?_
  refine RS.p (Pu.assign rfl) rfl rfl ?_
  refine RS.nil (hK4 _ _ ?_)
  obtain rfl := Option.some.inj H
  refine T.rt (Cont.ret1 rfl rfl fun w' s => ?_)
  exact ⟨rfl, s.ext⟩
 ·have H := ifF hc1 H
  refine T.skip (hK2 _ _ (T.conseq (fr' := [(0, _), (1, _)]) ?_ ⟨rfl, rfl, trivial⟩ (fun _ s => s)))
  refine T.seq fun K5 hK5 => ?_
  refine T.seq fun K6 hK6 => ?_
  refine T.region ?_
  refine RS.p (Pu.assign rfl) rfl rfl ?_
  refine RS.nil (hK6 _ _ ?_)
  refine T.joinE (σ := Unit) (γ := Unit) H Ex.go [] trivial (fun _ _ => []) (fun _ _ => Sat w []) ?_ ?_
  ·rintro ⟨⟩ ⟨⟩ H
   try dsimp only [Ex.then] at H
   refine Cont.conseq (fr' := []) ?_ trivial (fun _ s => s)
   refine id (hK5 _ _ ?_)
   refine T.seq fun K7 hK7 => ?_
   refine T.region ?_
   refine RS.p (Pu.assign rfl) rfl rfl ?_
   refine RS.nil (hK7 _ _ ?_)
   obtain rfl := Option.some.inj H
   refine T.rt (Cont.ret1 rfl rfl fun w' s => ?_)
   exact ⟨rfl, s.ext⟩
  ·intro z2 hz2 HX2 hJ2
   refine T.block ?_
   refine T.loopA (γ := Unit) hz2 [(0, _), (1, _)] (fun v3 _ => [(5, .int .i64 v3)]) (fun v3 _ => Sat w []) () ⟨rfl, rfl, trivial⟩ ⟨rfl, trivial⟩ (fun w s => s) ?_
   rintro v3 ⟨⟩ y4 H hd2 KL2 hL2
   try dsimp only [Ex.then] at H
   refine T.conseq (fr' := [(5, _), (0, _), (1, _)]) ?_ ⟨rfl, rfl, rfl, trivial⟩ (fun _ s => s)
   refine T.seq fun K8 hK8 => ?_
   refine T.seq fun K9 hK9 => ?_
   refine T.region ?_
   refine RS.p (Pu.move rfl) rfl rfl ?_
   refine RS.p (Pu.move rfl) rfl rfl ?_
   refine RS.p (Pu.lenSl sl22 rfl) rfl rfl ?_
   refine RS.p (Pu.bin rfl rfl rfl) rfl rfl ?_
   refine RS.nil (hK9 _ _ ?_)
   refine T.condP rfl (fun hc5 => ?_) (fun hc5 => ?_)
   ·have H := ifT hc5 H
    refine T.skip (hK8 _ _ (T.conseq (fr' := [(0, _), (1, _), (5, _)]) ?_ ⟨rfl, rfl, rfl, trivial⟩ (fun _ s => s)))
    refine T.seq fun K10 hK10 => ?_
    refine T.block ?_
    refine T.seq fun K11 hK11 => ?_
    refine T.drawn (fun _ => True) [(0, .pu), (1, .pu), (2, .pu), (3, .rd), (4, .pu), (5, .pu), (6, .pu), (7, .rd), (8, .pu)] mixed (ClE.sat _ _) (by kernel_rfl) ?_
    refine RD.p (fun _ _ => trivial) rfl (Pu.move rfl) rfl rfl ?_
    refine RD.p (fun _ _ => trivial) rfl (Pu.move rfl) rfl rfl ?_
    obtain ⟨g6, H⟩ := gdE H
    obtain ⟨bl7, ol8, rfl⟩ := R_ptr h0 (ne_of_pos (pos_of g6))
    refine RD.p (fun _ _ => trivial) rfl (Pu.indexSl sl22 rfl rfl g6) rfl rfl ?_
    refine RD.q (fun _ _ => trivial) rfl (Qt.ld0 (α := Bool) (Rd.base h0) ty4 rfl rfl g6 (by rintro _ _ rfl; rfl)) rfl rfl ?_
    refine RD.p (fun _ _ => trivial) rfl (Pu.move rfl) rfl rfl ?_
    refine RD.p (fun _ _ => trivial) rfl (Pu.move rfl) rfl rfl ?_
    obtain ⟨g9, H⟩ := gdE H
    obtain ⟨bl10, ol11, rfl⟩ := R_ptr h1 (ne_of_pos (pos_of g9))
    refine RD.p (fun _ _ => trivial) rfl (Pu.indexSl sl22 rfl rfl g9) rfl rfl ?_
    refine RD.q (fun _ _ => trivial) rfl (Qt.ld0 (α := Bool) (Rd.base h1) ty4 rfl rfl g9 (by rintro _ _ rfl; rfl)) rfl rfl ?_
    refine RD.p (fun _ _ => trivial) rfl (Pu.neB ul4 rfl rfl) rfl rfl ?_
    refine RD.nil (hK11 _ _ ?_)
    refine T.condP rfl (fun hc12 => ?_) (fun hc12 => ?_)
    ·have H := ifT hc12 H
     refine T.conseq (fr' := []) ?_ trivial (fun _ s => s)
     refine T.seq fun K12 hK12 => ?_
     refine T.region ?_
     refine RS.p (Pu.assign rfl) rfl rfl ?_
     refine RS.nil (hK12 _ _ ?_)
     obtain rfl := hd2 _ H
     have H := HX2
     obtain rfl := Option.some.inj H
     refine T.rt (Cont.ret1 rfl rfl fun w' s => ?_)
     exact ⟨rfl, s.ext⟩
    ·have H := ifF hc12 H
     refine T.skip (hK10 _ _ (T.conseq (fr' := [(0, _), (1, _), (5, _)]) ?_ ⟨rfl, rfl, rfl, trivial⟩ (fun _ s => s)))
     refine T.region ?_
     refine RS.p (Pu.move rfl) rfl rfl ?_
     obtain ⟨g13, H⟩ := gdE H
     refine RS.p (Pu.addS rfl rfl g13) rfl rfl ?_
     refine RS.p (Pu.assign rfl) rfl rfl ?_
     refine RS.nil (hL2 _ _ (v3 + 1) () H ⟨rfl, rfl, trivial⟩ ⟨rfl, trivial⟩ (fun w s => s))
   ·have H := ifF hc5 H
    obtain rfl := hd2 _ H
    refine T.xt (hJ2 _ _ () () HX2 trivial trivial (fun w s => s))
theorem throngref0_CopyBools_walk (a0_l : List Bool) (w : World) {v0 : Value} (h0 : R (hpOf w) a0_l [v0]) {r : List Bool} (H : throngref0_CopyBools a0_l = some r) : Calls Try.prog 10 #[v0] w fun e w' => ∃ q1 : (Option Nat × Nat), e = .returned (rowV q1 r.length) ∧ Sat w [row nilH 4 (rowV q1 r.length) r] w' := by
 have hm0 := R_max h0
 obtain ⟨p0, c0, rfl⟩ := R_form h0
 unfold throngref0_CopyBools at H
 refine T.enter (args := [_]) (S := Sat w []) Try.func10 rfl rfl (Sat.start w) ?_
 refine T.seq fun K1 hK1 => ?_
 refine T.region ?_
 refine RS.p (Pu.assign rfl) rfl rfl ?_
 refine RS.nil (hK1 _ _ ?_)
 refine T.seq fun K2 hK2 => ?_
 refine T.region ?_
 refine RS.p (Pu.assign rfl) rfl rfl ?_
 refine RS.nil (hK2 _ _ ?_)
 refine T.seq fun K3 hK3 => ?_
 refine T.seq fun K4 hK4 => ?_
 refine T.region ?_
 refine RS.p (Pu.assign rfl) rfl rfl ?_
 refine RS.nil (hK4 _ _ ?_)
 refine T.joinE (σ := List Bool) (γ := (Option Nat × Nat)) H (fun s => s) [] trivial (fun v2 q3 => [(3, rowV q3 v2.length)]) (fun v2 q3 => Sat w [row nilH 4 (rowV q3 v2.length) v2]) ?_ ?_
 ·rintro v2 q3 H
  try dsimp only [Ex.then] at H
  refine Cont.conseq (fr' := [(3, _)]) ?_ ⟨rfl, trivial⟩ (fun _ s => s)
  refine id (hK3 _ _ ?_)
  refine T.seq fun K5 hK5 => ?_
  refine T.region ?_
  refine RS.p (Pu.move rfl) rfl rfl ?_
  refine RS.p (Pu.assign rfl) rfl rfl ?_
  refine RS.nil (hK5 _ _ ?_)
  obtain rfl := Option.some.inj H
  refine T.rt (Cont.ret1 rfl rfl fun w' s => ?_)
  exact ⟨q3, rfl, s.pick [0] (by decide) rfl⟩
 ·intro z1 hz1 HX1 hJ1
  refine T.block ?_
  refine T.loopA (γ := (Option Nat × Nat)) hz1 [(0, _)] (fun (l4, v6) q5 => [(3, rowV q5 l4.length), (4, .int .i64 v6)]) (fun (l4, v6) q5 => Sat w [row nilH 4 (rowV q5 l4.length) l4]) (none, 0) ⟨rfl, trivial⟩ ⟨rfl, rfl, trivial⟩ (fun w s => (s.nilRow (α := Bool) 4).pick [0] (by decide) rfl) ?_
  rintro ⟨l4, v6⟩ q5 y7 H hd1 KL1 hL1
  try dsimp only [Ex.then] at H
  refine T.conseq (fr' := [(3, _), (4, _), (0, _)]) ?_ ⟨rfl, rfl, rfl, trivial⟩ (fun _ s => s)
  refine T.seq fun K6 hK6 => ?_
  refine T.seq fun K7 hK7 => ?_
  refine T.region ?_
  refine RS.p (Pu.move rfl) rfl rfl ?_
  refine RS.p (Pu.move rfl) rfl rfl ?_
  refine RS.p (Pu.lenSl sl22 rfl) rfl rfl ?_
  refine RS.p (Pu.bin rfl rfl rfl) rfl rfl ?_
  refine RS.nil (hK7 _ _ ?_)
  refine T.condP rfl (fun hc8 => ?_) (fun hc8 => ?_)
  ·have H := ifT hc8 H
   refine T.skip (hK6 _ _ (T.conseq (fr' := [(0, _), (3, _), (4, _)]) ?_ ⟨rfl, rfl, rfl, trivial⟩ (fun _ s => s)))
   refine T.seq fun K8 hK8 => ?_
   refine T.block ?_
   refine T.region ?_
   refine RS.p (Pu.move rfl) rfl rfl ?_
   refine RS.p (Pu.move rfl) rfl rfl ?_
   refine RS.p (Pu.move rfl) rfl rfl ?_
   obtain ⟨g9, H⟩ := gdE H
   obtain ⟨bl10, ol11, rfl⟩ := R_ptr h0 (ne_of_pos (pos_of g9))
   refine RS.p (Pu.indexSl sl22 rfl rfl g9) rfl rfl ?_
   refine RS.q (Qt.ld0 (α := Bool) (Rd.base h0) ty4 rfl rfl g9 (by rintro _ _ rfl; rfl)) rfl rfl ?_
   refine RS.solid (Sd.litS (cs := [_]) sl22 zr4 rfl rfl rfl rfl rfl) rfl rfl fun b12 => ?_
   obtain ⟨g14, H⟩ := gdE H
   refine RS.solid (Sd.app1c (α := Bool) 0 1 (gi a0_l v6) rfl rfl (nilH_lt _) sl22 zr4 rfl rfl rfl rfl g14 (by decide)) rfl rfl fun q13 => ?_
   refine RS.p (Pu.assign rfl) rfl rfl ?_
   refine RS.nil (hK8 _ _ (T.conseq (fr' := [(0, _), (3, _), (4, _)]) ?_ ⟨rfl, rfl, rfl, trivial⟩ (fun _ s => s)))
   refine T.region ?_
   refine RS.p (Pu.move rfl) rfl rfl ?_
   obtain ⟨g15, H⟩ := gdE H
   refine RS.p (Pu.addS rfl rfl g15) rfl rfl ?_
   refine RS.p (Pu.assign rfl) rfl rfl ?_
   refine RS.nil (hL1 _ _ ((l4 ++ [(gi a0_l v6)]), (v6 + 1)) q13 H ⟨rfl, trivial⟩ ⟨rfl, rfl, trivial⟩ (fun w s => s.pick [0] (by decide) rfl))
  ·have H := ifF hc8 H
   obtain rfl := hd1 _ H
   refine T.xt (hJ1 _ _ l4 q5 HX1 trivial ⟨rfl, trivial⟩ (fun w s => s))
theorem throngref0_EqPortals_walk (a0_a : List Prt) (a1_b : List Prt) (w : World) {v0 v1 : Value} (h0 : R (hpOf w) a0_a [v0]) (h1 : R (hpOf w) a1_b [v1]) {r : Bool} (H : throngref0_EqPortals a0_a a1_b = some r) : Calls Try.prog 13 #[v0, v1] w fun e w' => e = .returned (.bool r) ∧ Ext w w' := by
 have hm0 := R_max h0
 obtain ⟨p0, c0, rfl⟩ := R_form h0
 have hm1 := R_max h1
 obtain ⟨p1, c1, rfl⟩ := R_form h1
 unfold throngref0_EqPortals at H
 refine T.enter (args := [_, _]) (S := Sat w []) Try.func13 rfl rfl (Sat.start w) ?_
 refine T.seq fun K1 hK1 => ?_
 refine T.region ?_
 refine RS.p (Pu.assign rfl) rfl rfl ?_
 refine RS.nil (hK1 _ _ ?_)
 refine T.seq fun K2 hK2 => ?_
 refine T.seq fun K3 hK3 => ?_
 refine T.region ?_
 refine RS.p (Pu.move rfl) rfl rfl ?_
 refine RS.p (Pu.lenSl sl27 rfl) rfl rfl ?_
 refine RS.p (Pu.move rfl) rfl rfl ?_
 refine RS.p (Pu.lenSl sl27 rfl) rfl rfl ?_
 refine RS.p (Pu.bin rfl rfl rfl) rfl rfl ?_
 refine RS.nil (hK3 _ _ ?_)
 refine T.condP rfl (fun hc1 => ?_) (fun hc1 => ?_)
 ·have H := ifT hc1 H
  refine T.conseq (fr' := []) ?_ trivial (fun _ s => s)
  refine T.seq fun K4 hK4 => ?_
  refine T.region ?_
  refine RS.p (Pu.assign rfl) rfl rfl ?_
  refine RS.nil (hK4 _ _ ?_)
  obtain rfl := Option.some.inj H
  refine T.rt (Cont.ret1 rfl rfl fun w' s => ?_)
  exact ⟨rfl, s.ext⟩
 ·have H := ifF hc1 H
  refine T.skip (hK2 _ _ (T.conseq (fr' := [(0, _), (1, _)]) ?_ ⟨rfl, rfl, trivial⟩ (fun _ s => s)))
  refine T.seq fun K5 hK5 => ?_
  refine T.seq fun K6 hK6 => ?_
  refine T.region ?_
  refine RS.p (Pu.assign rfl) rfl rfl ?_
  refine RS.nil (hK6 _ _ ?_)
  refine T.joinE (σ := Unit) (γ := Unit) H Ex.go [] trivial (fun _ _ => []) (fun _ _ => Sat w []) ?_ ?_
  ·rintro ⟨⟩ ⟨⟩ H
   try dsimp only [Ex.then] at H
   refine Cont.conseq (fr' := []) ?_ trivial (fun _ s => s)
   refine id (hK5 _ _ ?_)
   refine T.seq fun K7 hK7 => ?_
   refine T.region ?_
   refine RS.p (Pu.assign rfl) rfl rfl ?_
   refine RS.nil (hK7 _ _ ?_)
   obtain rfl := Option.some.inj H
   refine T.rt (Cont.ret1 rfl rfl fun w' s => ?_)
   exact ⟨rfl, s.ext⟩
  ·intro z2 hz2 HX2 hJ2
   refine T.block ?_
   refine T.loopA (γ := Unit) hz2 [(0, _), (1, _)] (fun v3 _ => [(5, .int .i64 v3)]) (fun v3 _ => Sat w []) () ⟨rfl, rfl, trivial⟩ ⟨rfl, trivial⟩ (fun w s => s) ?_
   rintro v3 ⟨⟩ y4 H hd2 KL2 hL2
   try dsimp only [Ex.then] at H
   refine T.conseq (fr' := [(5, _), (0, _), (1, _)]) ?_ ⟨rfl, rfl, rfl, trivial⟩ (fun _ s => s)
   refine T.seq fun K8 hK8 => ?_
   refine T.seq fun K9 hK9 => ?_
   refine T.region ?_
   refine RS.p (Pu.move rfl) rfl rfl ?_
   refine RS.p (Pu.move rfl) rfl rfl ?_
   refine RS.p (Pu.lenSl sl27 rfl) rfl rfl ?_
   refine RS.p (Pu.bin rfl rfl rfl) rfl rfl ?_
   refine RS.nil (hK9 _ _ ?_)
   refine T.condP rfl (fun hc5 => ?_) (fun hc5 => ?_)
   ·have H := ifT hc5 H
    refine T.skip (hK8 _ _ (T.conseq (fr' := [(0, _), (1, _), (5, _)]) ?_ ⟨rfl, rfl, rfl, trivial⟩ (fun _ s => s)))
    refine T.seq fun K10 hK10 => ?_
    refine T.block ?_
    refine T.seq fun K11 hK11 => ?_
    refine T.drawn (fun _ => True) [(0, .pu), (1, .pu), (2, .pu), (3, .rd), (4, .pu), (5, .pu), (6, .pu), (7, .rd), (8, .pu)] mixed (ClE.sat _ _) (by kernel_rfl) ?_
    refine RD.p (fun _ _ => trivial) rfl (Pu.move rfl) rfl rfl ?_
    refine RD.p (fun _ _ => trivial) rfl (Pu.move rfl) rfl rfl ?_
    obtain ⟨g6, H⟩ := gdE H
    obtain ⟨bl7, ol8, rfl⟩ := R_ptr h0 (ne_of_pos (pos_of g6))
    refine RD.p (fun _ _ => trivial) rfl (Pu.indexSl sl27 rfl rfl g6) rfl rfl ?_
    refine RD.q (fun _ _ => trivial) rfl (Qt.ldW (α := Prt) (cs := [_, _, _]) (Rd.base h0) ty40 rfl rfl g6 rfl (by rintro _ _ rfl; rfl)) rfl rfl ?_
    refine RD.p (fun _ _ => trivial) rfl (Pu.move rfl) rfl rfl ?_
    refine RD.p (fun _ _ => trivial) rfl (Pu.move rfl) rfl rfl ?_
    obtain ⟨g9, H⟩ := gdE H
    obtain ⟨bl10, ol11, rfl⟩ := R_ptr h1 (ne_of_pos (pos_of g9))
    refine RD.p (fun _ _ => trivial) rfl (Pu.indexSl sl27 rfl rfl g9) rfl rfl ?_
    refine RD.q (fun _ _ => trivial) rfl (Qt.ldW (α := Prt) (cs := [_, _, _]) (Rd.base h1) ty40 rfl rfl g9 rfl (by rintro _ _ rfl; rfl)) rfl rfl ?_
    refine RD.p (fun _ _ => trivial) rfl (Pu.neSt eqt40 rfl rfl rfl (eq_Prt (gi a0_a v3) (gi a1_b v3))) rfl rfl ?_
    refine RD.nil (hK11 _ _ ?_)
    refine T.condP rfl (fun hc12 => ?_) (fun hc12 => ?_)
    ·have H := ifT hc12 H
     refine T.conseq (fr' := []) ?_ trivial (fun _ s => s)
     refine T.seq fun K12 hK12 => ?_
     refine T.region ?_
     refine RS.p (Pu.assign rfl) rfl rfl ?_
     refine RS.nil (hK12 _ _ ?_)
     obtain rfl := hd2 _ H
     have H := HX2
     obtain rfl := Option.some.inj H
     refine T.rt (Cont.ret1 rfl rfl fun w' s => ?_)
     exact ⟨rfl, s.ext⟩
    ·have H := ifF hc12 H
     refine T.skip (hK10 _ _ (T.conseq (fr' := [(0, _), (1, _), (5, _)]) ?_ ⟨rfl, rfl, rfl, trivial⟩ (fun _ s => s)))
     refine T.region ?_
     refine RS.p (Pu.move rfl) rfl rfl ?_
     obtain ⟨g13, H⟩ := gdE H
     refine RS.p (Pu.addS rfl rfl g13) rfl rfl ?_
     refine RS.p (Pu.assign rfl) rfl rfl ?_
     refine RS.nil (hL2 _ _ (v3 + 1) () H ⟨rfl, rfl, trivial⟩ ⟨rfl, trivial⟩ (fun w s => s))
   ·have H := ifF hc5 H
    obtain rfl := hd2 _ H
    refine T.xt (hJ2 _ _ () () HX2 trivial trivial (fun w s => s))
theorem throngref0_CopyPortals_walk (a0_l : List Prt) (w : World) {v0 : Value} (h0 : R (hpOf w) a0_l [v0]) {r : List Prt} (H : throngref0_CopyPortals a0_l = some r) : Calls Try.prog 29 #[v0] w fun e w' => ∃ q1 : (Option Nat × Nat), e = .returned (rowV q1 r.length) ∧ Sat w [row nilH 40 (rowV q1 r.length) r] w' := by
 have hm0 := R_max h0
 obtain ⟨p0, c0, rfl⟩ := R_form h0
 unfold throngref0_CopyPortals at H
 refine T.enter (args := [_]) (S := Sat w []) Try.func29 rfl rfl (Sat.start w) ?_
 refine T.seq fun K1 hK1 => ?_
 refine T.region ?_
 refine RS.p (Pu.assign rfl) rfl rfl ?_
 refine RS.nil (hK1 _ _ ?_)
 refine T.seq fun K2 hK2 => ?_
 refine T.region ?_
 refine RS.p (Pu.assign rfl) rfl rfl ?_
 refine RS.nil (hK2 _ _ ?_)
 refine T.seq fun K3 hK3 => ?_
 refine T.seq fun K4 hK4 => ?_
 refine T.region ?_
 refine RS.p (Pu.assign rfl) rfl rfl ?_
 refine RS.nil (hK4 _ _ ?_)
 refine T.joinE (σ := List Prt) (γ := (Option Nat × Nat)) H (fun s => s) [] trivial (fun v2 q3 => [(3, rowV q3 v2.length)]) (fun v2 q3 => Sat w [row nilH 40 (rowV q3 v2.length) v2]) ?_ ?_
 ·rintro v2 q3 H
  try dsimp only [Ex.then] at H
  refine Cont.conseq (fr' := [(3, _)]) ?_ ⟨rfl, trivial⟩ (fun _ s => s)
  refine id (hK3 _ _ ?_)
  refine T.seq fun K5 hK5 => ?_
  refine T.region ?_
  refine RS.p (Pu.move rfl) rfl rfl ?_
  refine RS.p (Pu.assign rfl) rfl rfl ?_
  refine RS.nil (hK5 _ _ ?_)
  obtain rfl := Option.some.inj H
  refine T.rt (Cont.ret1 rfl rfl fun w' s => ?_)
  exact ⟨q3, rfl, s.pick [0] (by decide) rfl⟩
 ·intro z1 hz1 HX1 hJ1
  refine T.block ?_
  refine T.loopA (γ := (Option Nat × Nat)) hz1 [(0, _)] (fun (l4, v6) q5 => [(3, rowV q5 l4.length), (4, .int .i64 v6)]) (fun (l4, v6) q5 => Sat w [row nilH 40 (rowV q5 l4.length) l4]) (none, 0) ⟨rfl, trivial⟩ ⟨rfl, rfl, trivial⟩ (fun w s => (s.nilRow (α := Prt) 40).pick [0] (by decide) rfl) ?_
  rintro ⟨l4, v6⟩ q5 y7 H hd1 KL1 hL1
  try dsimp only [Ex.then] at H
  refine T.conseq (fr' := [(3, _), (4, _), (0, _)]) ?_ ⟨rfl, rfl, rfl, trivial⟩ (fun _ s => s)
  refine T.seq fun K6 hK6 => ?_
  refine T.seq fun K7 hK7 => ?_
  refine T.region ?_
  refine RS.p (Pu.move rfl) rfl rfl ?_
  refine RS.p (Pu.move rfl) rfl rfl ?_
  refine RS.p (Pu.lenSl sl27 rfl) rfl rfl ?_
  refine RS.p (Pu.bin rfl rfl rfl) rfl rfl ?_
  refine RS.nil (hK7 _ _ ?_)
  refine T.condP rfl (fun hc8 => ?_) (fun hc8 => ?_)
  ·have H := ifT hc8 H
   refine T.skip (hK6 _ _ (T.conseq (fr' := [(0, _), (3, _), (4, _)]) ?_ ⟨rfl, rfl, rfl, trivial⟩ (fun _ s => s)))
   refine T.seq fun K8 hK8 => ?_
   refine T.block ?_
   refine T.region ?_
   refine RS.p (Pu.move rfl) rfl rfl ?_
   refine RS.p (Pu.move rfl) rfl rfl ?_
   refine RS.p (Pu.move rfl) rfl rfl ?_
   obtain ⟨g9, H⟩ := gdE H
   obtain ⟨bl10, ol11, rfl⟩ := R_ptr h0 (ne_of_pos (pos_of g9))
   refine RS.p (Pu.indexSl sl27 rfl rfl g9) rfl rfl ?_
   refine RS.q (Qt.ldW (α := Prt) (cs := [_, _, _]) (Rd.base h0) ty40 rfl rfl g9 rfl (by rintro _ _ rfl; rfl)) rfl rfl ?_
   refine RS.solid (Sd.litS (cs := [_, _, _]) sl27 zr40 rfl rfl rfl rfl rfl) rfl rfl fun b12 => ?_
   obtain ⟨g14, H⟩ := gdE H
   refine RS.solid (Sd.app1c (α := Prt) 0 1 (gi a0_l v6) rfl rfl (nilH_lt _) sl27 zr40 rfl rfl rfl rfl g14 (by decide)) rfl rfl fun q13 => ?_
   refine RS.p (Pu.assign rfl) rfl rfl ?_
   refine RS.nil (hK8 _ _ (T.conseq (fr' := [(0, _), (3, _), (4, _)]) ?_ ⟨rfl, rfl, rfl, trivial⟩ (fun _ s => s)))
   refine T.region ?_
   refine RS.p (Pu.move rfl) rfl rfl ?_
   obtain ⟨g15, H⟩ := gdE H
   refine RS.p (Pu.addS rfl rfl g15) rfl rfl ?_
   refine RS.p (Pu.assign rfl) rfl rfl ?_
   refine RS.nil (hL1 _ _ ((l4 ++ [(gi a0_l v6)]), (v6 + 1)) q13 H ⟨rfl, trivial⟩ ⟨rfl, rfl, trivial⟩ (fun w s => s.pick [0] (by decide) rfl))
  ·have H := ifF hc8 H
   obtain rfl := hd1 _ H
   refine T.xt (hJ1 _ _ l4 q5 HX1 trivial ⟨rfl, trivial⟩ (fun w s => s))
theorem thronglaw0_Portals_walk {w0 : World} {F : Ch} (a0_l : List Prt) {q0 : Option Nat × Nat} {m0 : Nat} (hm : m0 = a0_l.length) {r : Unit} (H : thronglaw0_Portals a0_l = some r) (w : World) (s : Sat w0 [row nilH 40 (rowV q0 m0) a0_l, F] w) : Calls Try.prog 15 #[rowV q0 m0] w fun e w' => e = .returned (.tuple #[]) ∧ Sat w0 [dead, F] w' := by
 subst hm
 unfold thronglaw0_Portals at H
 refine T.enter (args := [_]) (S := Sat w0 [row nilH 40 (rowV q0 a0_l.length) a0_l, F]) Try.func15 rfl rfl (s) ?_
 refine T.seq fun K1 hK1 => ?_
 refine T.region ?_
 refine RS.p (Pu.assign rfl) rfl rfl ?_
 refine RS.nil (hK1 _ _ ?_)
 refine T.joinE (σ := Unit) (γ := Unit) H (fun s => s) [] trivial (fun _ _ => []) (fun _ _ => Sat w0 [dead, F]) ?_ ?_
 ·rintro ⟨⟩ ⟨⟩ H
  try dsimp only [Ex.then] at H
  refine Cont.conseq (fr' := []) ?_ trivial (fun _ s => s)
  obtain rfl := Option.some.inj H
  refine id (Cont.end0 rfl fun w' s => ?_)
  exact ⟨rfl, (s.deadRow).pick [2, 1] (by decide) rfl⟩
 ·intro z1 hz1 HX1 hJ1
  refine T.block ?_
  refine T.loopA (γ := Unit) hz1 [(0, _)] (fun (v2, l3) _ => [(2, .int .i64 v2)]) (fun (v2, l3) _ => Sat w0 [row nilH 40 (rowV q0 a0_l.length) l3, F]) () ⟨rfl, trivial⟩ ⟨rfl, trivial⟩ (fun w s => s) ?_
  rintro ⟨v2, l3⟩ ⟨⟩ y4 H hd1 KL1 hL1
  try dsimp only [Ex.then] at H
  refine T.conseq (fr' := [(2, _), (0, _)]) ?_ ⟨rfl, rfl, trivial⟩ (fun _ s => s)
  refine T.seq fun K2 hK2 => ?_
  refine T.seq fun K3 hK3 => ?_
  refine T.region ?_
  refine RS.p (Pu.move rfl) rfl rfl ?_
  refine RS.p (Pu.move rfl) rfl rfl ?_
  refine RS.p (Pu.lenSl sl27 rfl) rfl rfl ?_
  refine RS.p (Pu.bin rfl rfl rfl) rfl rfl ?_
  refine RS.nil (hK3 _ _ ?_)
  refine T.condP rfl (fun hc5 => ?_) (fun hc5 => ?_)
  ·have H := ifT hc5 H
   refine T.skip (hK2 _ _ (T.conseq (fr' := [(0, _), (2, _)]) ?_ ⟨rfl, rfl, trivial⟩ (fun _ s => s)))
   refine T.seq fun K4 hK4 => ?_
   refine T.block ?_
   refine T.region ?_
   refine RS.p (Pu.move rfl) rfl rfl ?_
   refine RS.p (Pu.move rfl) rfl rfl ?_
   refine RS.p (Pu.build (cells := [_, _, _]) st40 rfl rfl) rfl rfl ?_
   obtain ⟨g6, H⟩ := gdE H
   refine RS.know (fun w s => (s.row_fits (q := q0) (m := a0_l.length) (k := 0) rfl)) fun hf7 => ?_
   refine RS.know (p := ∃ g cap, q0 = (some g, cap)) (fun w s => (s.row_some (k := 0) rfl (pos_of (idx_of hf7.1 g6)))) ?_
   rintro ⟨gg8, cc9, rfl⟩
   refine RS.p (Pu.indexSl sl27 rfl rfl g6) rfl rfl ?_
   refine RS.solid (Sd.st0 (α := Prt) 0 (⟨(-9), 0, 0⟩ : Prt) rfl ty40 rfl rfl rfl (idx_of hf7.1 g6) rfl rfl (by decide) rfl (by rintro _ _ rfl; rfl)) rfl rfl fun _ => ?_
   refine RS.nil (hK4 _ _ (T.conseq (fr' := [(0, _), (2, _)]) ?_ ⟨rfl, rfl, trivial⟩ (fun _ s => s)))
   refine T.region ?_
   refine RS.p (Pu.move rfl) rfl rfl ?_
   obtain ⟨g10, H⟩ := gdE H
   refine RS.p (Pu.addS rfl rfl g10) rfl rfl ?_
   refine RS.p (Pu.assign rfl) rfl rfl ?_
   refine RS.nil (hL1 _ _ ((v2 + 1), (si l3 v2 (⟨(-9), 0, 0⟩ : Prt))) () H ⟨rfl, trivial⟩ ⟨rfl, trivial⟩ (fun w s => s))
  ·have H := ifF hc5 H
   obtain rfl := hd1 _ H
   refine T.xt (hJ1 _ _ () () HX1 trivial trivial (fun w s => (s.deadRow).pick [2, 1] (by decide) rfl))
theorem throngref10_May_walk (a0_w : Int) (a1_h : Int) (a2_free : List Bool) (w : World) {v0 : Value} (h0 : R (hpOf w) a2_free [v0]) {r : Bool} (H : throngref10_May a0_w a1_h a2_free = some r) : Calls Try.prog 8 #[.int .i64 a0_w, .int .i64 a1_h, v0] w fun e w' => e = .returned (.bool r) ∧ Ext w w' := by
 have hm0 := R_max h0
 obtain ⟨p0, c0, rfl⟩ := R_form h0
 unfold throngref10_May at H
 refine T.enter (args := [_, _, _]) (S := Sat w []) Try.func8 rfl rfl (Sat.start w) ?_
 refine T.seq fun K1 hK1 => ?_
 refine T.region ?_
 refine RS.p (Pu.assign rfl) rfl rfl ?_
 refine RS.nil (hK1 _ _ ?_)
 refine T.seq fun K2 hK2 => ?_
 refine T.region ?_
 refine RS.p (Pu.move rfl) rfl rfl ?_
 refine RS.p (Pu.bin rfl rfl rfl) rfl rfl ?_
 refine RS.p (Pu.move rfl) rfl rfl ?_
 refine RS.joinV 3 12 (.bool (decide ((1 ≤ a0_w) ∧ (a0_w ≤ 128)))) [(0, _), (1, _), (2, _), (6, _)] ⟨rfl, rfl, rfl, rfl, trivial⟩ ?_ ?_
 ·refine RS.p (Pu.move rfl) rfl rfl ?_
  refine RS.joinV 3 16 (.bool (decide (((1 ≤ a0_w) ∧ (a0_w ≤ 128)) ∧ (1 ≤ a1_h)))) [(0, _), (1, _), (2, _), (6, _)] ⟨rfl, rfl, rfl, rfl, trivial⟩ ?_ ?_
  ·refine RS.p (Pu.move rfl) rfl rfl ?_
   refine RS.joinV 3 20 (.bool (decide ((((1 ≤ a0_w) ∧ (a0_w ≤ 128)) ∧ (1 ≤ a1_h)) ∧ (a1_h ≤ 128)))) [(0, _), (1, _), (2, _), (6, _)] ⟨rfl, rfl, rfl, rfl, trivial⟩ ?_ ?_
   ·refine RS.p (Pu.move rfl) rfl rfl ?_
    obtain ⟨g9, H⟩ := gdE H
    refine RS.joinV 7 28 (.bool (decide (((((1 ≤ a0_w) ∧ (a0_w ≤ 128)) ∧ (1 ≤ a1_h)) ∧ (a1_h ≤ 128)) ∧ ((a2_free.length : Int) = (a0_w * a1_h))))) [(6, _)] ⟨rfl, trivial⟩ ?_ ?_
    ·refine RS.p (Pu.assign rfl) rfl rfl ?_
     refine RS.nil (hK2 _ _ ?_)
     obtain rfl := Option.some.inj H
     refine T.rt (Cont.ret1 rfl rfl fun w' s => ?_)
     exact ⟨rfl, s.ext⟩
    ·intro hJ8
     refine RS.splitP 21 rfl (fun hc7 => ?_) (fun hc7 => ?_)
     ·refine RS.p (Pu.move rfl) rfl rfl ?_
      refine RS.p (Pu.lenSl sl22 rfl) rfl rfl ?_
      refine RS.p (Pu.move rfl) rfl rfl ?_
      refine RS.p (Pu.move rfl) rfl rfl ?_
      refine RS.p (Pu.mulS rfl rfl (g9 hc7)) rfl rfl ?_
      refine RS.p (Pu.bin rfl rfl rfl) rfl rfl ?_
      refine RS.p (Pu.pickT rfl rfl) rfl rfl ?_
      exact hJ8 _ _ ⟨dAndT hc7, rfl, trivial⟩ (fun w s => s)
     ·refine RS.no rfl rfl ?_
      refine RS.no rfl rfl ?_
      refine RS.no rfl rfl ?_
      refine RS.no rfl rfl ?_
      refine RS.no rfl rfl ?_
      refine RS.no rfl rfl ?_
      refine RS.p (Pu.pickF rfl rfl) rfl rfl ?_
      exact hJ8 _ _ ⟨dAndF hc7, rfl, trivial⟩ (fun w s => s)
   ·intro hJ6
    refine RS.splitP 17 rfl (fun hc5 => ?_) (fun hc5 => ?_)
    ·refine RS.p (Pu.move rfl) rfl rfl ?_
     refine RS.p (Pu.bin rfl rfl rfl) rfl rfl ?_
     refine RS.p (Pu.pickT rfl rfl) rfl rfl ?_
     exact hJ6 _ _ ⟨dAndT hc5, rfl, rfl, rfl, rfl, trivial⟩ (fun w s => s)
    ·refine RS.no rfl rfl ?_
     refine RS.no rfl rfl ?_
     refine RS.p (Pu.pickF rfl rfl) rfl rfl ?_
     exact hJ6 _ _ ⟨dAndF hc5, rfl, rfl, rfl, rfl, trivial⟩ (fun w s => s)
  ·intro hJ4
   refine RS.splitP 13 rfl (fun hc3 => ?_) (fun hc3 => ?_)
   ·refine RS.p (Pu.move rfl) rfl rfl ?_
    refine RS.p (Pu.bin rfl rfl rfl) rfl rfl ?_
    refine RS.p (Pu.pickT rfl rfl) rfl rfl ?_
    exact hJ4 _ _ ⟨dAndT hc3, rfl, rfl, rfl, rfl, trivial⟩ (fun w s => s)
   ·refine RS.no rfl rfl ?_
    refine RS.no rfl rfl ?_
    refine RS.p (Pu.pickF rfl rfl) rfl rfl ?_
    exact hJ4 _ _ ⟨dAndF hc3, rfl, rfl, rfl, rfl, trivial⟩ (fun w s => s)
 ·intro hJ2
  refine RS.splitP 9 rfl (fun hc1 => ?_) (fun hc1 => ?_)
  ·refine RS.p (Pu.move rfl) rfl rfl ?_
   refine RS.p (Pu.bin rfl rfl rfl) rfl rfl ?_
   refine RS.p (Pu.pickT rfl rfl) rfl rfl ?_
   exact hJ2 _ _ ⟨dAndT hc1, rfl, rfl, rfl, rfl, trivial⟩ (fun w s => s)
  ·refine RS.no rfl rfl ?_
   refine RS.no rfl rfl ?_
   refine RS.p (Pu.pickF rfl rfl) rfl rfl ?_
   exact hJ2 _ _ ⟨dAndF hc1, rfl, rfl, rfl, rfl, trivial⟩ (fun w s => s)
theorem throngref10_Across_walk (a0_w : Int) (w : World) {r : Int} (H : throngref10_Across a0_w = some r) : Calls Try.prog 28 #[.int .i64 a0_w] w fun e w' => e = .returned (.int .i64 r) ∧ Ext w w' := by
 unfold throngref10_Across at H
 refine T.enter (args := [_]) (S := Sat w []) Try.func28 rfl rfl (Sat.start w) ?_
 refine T.seq fun K1 hK1 => ?_
 refine T.region ?_
 refine RS.p (Pu.assign rfl) rfl rfl ?_
 refine RS.nil (hK1 _ _ ?_)
 refine T.seq fun K2 hK2 => ?_
 refine T.region ?_
 refine RS.p (Pu.move rfl) rfl rfl ?_
 obtain ⟨g1, H⟩ := gdE H
 refine RS.p (Pu.addS rfl rfl g1) rfl rfl ?_
 obtain ⟨g2, H⟩ := gdE H
 refine RS.p (Pu.subS rfl rfl g2) rfl rfl ?_
 obtain ⟨g3, H⟩ := gdE H
 refine RS.p (Pu.quoN rfl rfl ⟨g3.1, g3.2, by decide⟩) rfl rfl ?_
 refine RS.p (Pu.assign rfl) rfl rfl ?_
 refine RS.nil (hK2 _ _ (T.conseq (fr' := [(2, _)]) ?_ ⟨rfl, trivial⟩ (fun _ s => s)))
 obtain rfl := Option.some.inj H
 refine T.rt (Cont.ret1 rfl rfl fun w' s => ?_)
 exact ⟨rfl, s.ext⟩
theorem throngref10_Of_walk (a0_w : Int) (a1_t : Int) (w : World) {r : Int} (H : throngref10_Of a0_w a1_t = some r) : Calls Try.prog 20 #[.int .i64 a0_w, .int .i64 a1_t] w fun e w' => e = .returned (.int .i64 r) ∧ Ext w w' := by
 unfold throngref10_Of at H
 refine T.enter (args := [_, _]) (S := Sat w []) Try.func20 rfl rfl (Sat.start w) ?_
 refine T.seq fun K1 hK1 => ?_
 refine T.region ?_
 refine RS.p (Pu.assign rfl) rfl rfl ?_
 refine RS.nil (hK1 _ _ ?_)
 refine T.seq fun K2 hK2 => ?_
 refine T.drawn (fun _ => True) [(0, .pu), (1, .pu), (2, .pu), (3, .pu), (4, .pu), (5, .rd), (6, .pu), (7, .pu), (8, .pu), (9, .pu), (10, .pu), (11, .pu), (12, .pu)] mixed (ClE.sat _ _) (by kernel_rfl) ?_
 refine RD.p (fun _ _ => trivial) rfl (Pu.move rfl) rfl rfl ?_
 refine RD.p (fun _ _ => trivial) rfl (Pu.move rfl) rfl rfl ?_
 obtain ⟨g1, H⟩ := gdE H
 refine RD.p (fun _ _ => trivial) rfl (Pu.remN rfl rfl (and3 g1)) rfl rfl ?_
 obtain ⟨g2, H⟩ := gdE H
 refine RD.p (fun _ _ => trivial) rfl (Pu.quoN rfl rfl ⟨g2.1, g2.2, by decide⟩) rfl rfl ?_
 refine RD.p (fun _ _ => trivial) rfl (Pu.move rfl) rfl rfl ?_
 obtain ⟨x3, hx3, H⟩ := bindE H
 refine RD.q (fun _ _ => trivial) rfl (Qt.call (vs := [.int .i64 a0_w]) ent28 rfl fun w s => throngref10_Across_walk a0_w w  hx3) rfl rfl ?_
 refine RD.p (fun _ _ => trivial) rfl (Pu.move rfl) rfl rfl ?_
 refine RD.p (fun _ _ => trivial) rfl (Pu.move rfl) rfl rfl ?_
 obtain ⟨g4, H⟩ := gdE H
 refine RD.p (fun _ _ => trivial) rfl (Pu.quoN rfl rfl g4) rfl rfl ?_
 obtain ⟨g5, H⟩ := gdE H
 refine RD.p (fun _ _ => trivial) rfl (Pu.quoN rfl rfl ⟨g5.1, g5.2, by decide⟩) rfl rfl ?_
 obtain ⟨g6, H⟩ := gdE H
 refine RD.p (fun _ _ => trivial) rfl (Pu.mulS rfl rfl g6) rfl rfl ?_
 obtain ⟨g7, H⟩ := gdE H
 refine RD.p (fun _ _ => trivial) rfl (Pu.addS rfl rfl g7) rfl rfl ?_
 refine RD.p (fun _ _ => trivial) rfl (Pu.assign rfl) rfl rfl ?_
 refine RD.nil (hK2 _ _ (T.conseq (fr' := [(4, _)]) ?_ ⟨rfl, trivial⟩ (fun _ s => s)))
 obtain rfl := Option.some.inj H
 refine T.rt (Cont.ret1 rfl rfl fun w' s => ?_)
 exact ⟨rfl, s.ext⟩
theorem throngref10_pair_walk (a0_w : Int) (a1_h : Int) (a2_free : List Bool) (a3_t : Int) (a4_down : Bool) (w : World) {v0 : Value} (h0 : R (hpOf w) a2_free [v0]) {r : Int × Bool} (H : throngref10_pair a0_w a1_h a2_free a3_t a4_down = some r) : Calls Try.prog 19 #[.int .i64 a0_w, .int .i64 a1_h, v0, .int .i64 a3_t, .bool a4_down] w fun e w' => e = .returned (.tuple #[.int .i64 r.1, .bool r.2]) ∧ Ext w w' := by
 have hm0 := R_max h0
 obtain ⟨p0, c0, rfl⟩ := R_form h0
 unfold throngref10_pair at H
 refine T.enter (args := [_, _, _, _, _]) (S := Sat w []) Try.func19 rfl rfl (Sat.start w) ?_
 refine T.seq fun K1 hK1 => ?_
 refine T.region ?_
 refine RS.p (Pu.assign rfl) rfl rfl ?_
 refine RS.p (Pu.assign rfl) rfl rfl ?_
 refine RS.nil (hK1 _ _ ?_)
 refine T.seq fun K2 hK2 => ?_
 refine T.region ?_
 refine RS.p (Pu.move rfl) rfl rfl ?_
 obtain ⟨g1, H⟩ := gdE H
 refine RS.p (Pu.addS rfl rfl g1) rfl rfl ?_
 refine RS.p (Pu.assign rfl) rfl rfl ?_
 refine RS.nil (hK2 _ _ (T.conseq (fr' := [(0, _), (1, _), (2, _), (3, _), (4, _), (12, _)]) ?_ ⟨rfl, rfl, rfl, rfl, rfl, rfl, trivial⟩ (fun _ s => s)))
 refine T.seq fun K3 hK3 => ?_
 refine T.seq fun K4 hK4 => ?_
 refine T.region ?_
 refine RS.p (Pu.move rfl) rfl rfl ?_
 refine RS.nil (hK4 _ _ ?_)
 refine T.joinE (σ := Int) (γ := Unit) H Ex.go [(0, _), (2, _), (3, _)] ⟨rfl, rfl, rfl, trivial⟩ (fun v3 _ => [(12, .int .i64 v3)]) (fun v3 _ => Sat w []) ?_ ?_
 ·rintro v3 ⟨⟩ H
  try dsimp only [Ex.then] at H
  refine Cont.conseq (fr' := [(12, _), (0, _), (2, _), (3, _)]) ?_ ⟨rfl, rfl, rfl, rfl, trivial⟩ (fun _ s => s)
  refine id (hK3 _ _ ?_)
  refine T.seq fun K5 hK5 => ?_
  refine T.region ?_
  refine RS.p (Pu.move rfl) rfl rfl ?_
  refine RS.p (Pu.move rfl) rfl rfl ?_
  refine RS.p (Pu.move rfl) rfl rfl ?_
  obtain ⟨g4, H⟩ := gdE H
  obtain ⟨bl5, ol6, rfl⟩ := R_ptr h0 (ne_of_pos (pos_of g4))
  refine RS.p (Pu.indexSl sl22 rfl rfl g4) rfl rfl ?_
  refine RS.q (Qt.ld0 (α := Bool) (Rd.base h0) ty4 rfl rfl g4 (by rintro _ _ rfl; rfl)) rfl rfl ?_
  refine RS.p (Pu.move rfl) rfl rfl ?_
  obtain ⟨g9, H⟩ := gdE H
  refine RS.joinV 5 41 (.bool (decide (((gi a2_free a3_t) = true) ∧ ((gi a2_free v3) = true)))) [(0, _), (3, _), (12, _), (31, _)] ⟨rfl, rfl, rfl, rfl, trivial⟩ ?_ ?_
  ·refine RS.p (Pu.move rfl) rfl rfl ?_
   refine RS.joinB H 8 50 (fun b12 => .bool b12) [(31, _)] ⟨rfl, trivial⟩ ?_ ?_
   ·intro b12 H
    refine RS.p (Pu.assign rfl) rfl rfl ?_
    refine RS.p (Pu.assign rfl) rfl rfl ?_
    refine RS.nil (hK5 _ _ ?_)
    obtain rfl := Option.some.inj H
    refine T.rt (Cont.ret2 rfl rfl rfl fun w' s => ?_)
    exact ⟨rfl, s.ext⟩
   ·intro z13 H hJ11
    refine RS.splitP 42 rfl (fun hc10 => ?_) (fun hc10 => ?_)
    ·have H := ifT hc10 H
     refine RS.p (Pu.move rfl) rfl rfl ?_
     refine RS.p (Pu.move rfl) rfl rfl ?_
     obtain ⟨x14, hx14, H⟩ := bindE H
     refine RS.q (Qt.call (vs := [.int .i64 a0_w, .int .i64 a3_t]) ent20 rfl fun w s => throngref10_Of_walk a0_w a3_t w  hx14) rfl rfl ?_
     refine RS.p (Pu.move rfl) rfl rfl ?_
     refine RS.p (Pu.move rfl) rfl rfl ?_
     obtain ⟨x15, hx15, H⟩ := bindE H
     refine RS.q (Qt.call (vs := [.int .i64 a0_w, .int .i64 v3]) ent20 rfl fun w s => throngref10_Of_walk a0_w v3 w  hx15) rfl rfl ?_
     refine RS.p (Pu.bin rfl rfl rfl) rfl rfl ?_
     refine RS.p (Pu.pickT rfl rfl) rfl rfl ?_
     obtain rfl := Option.some.inj H
     exact hJ11 _ _ ⟨rfl, rfl, trivial⟩ (fun w s => s)
    ·have H := ifF hc10 H
     refine RS.no rfl rfl ?_
     refine RS.no rfl rfl ?_
     refine RS.no rfl rfl ?_
     refine RS.no rfl rfl ?_
     refine RS.no rfl rfl ?_
     refine RS.no rfl rfl ?_
     refine RS.no rfl rfl ?_
     refine RS.p (Pu.pickF rfl rfl) rfl rfl ?_
     obtain rfl := Option.some.inj H
     exact hJ11 _ _ ⟨rfl, rfl, trivial⟩ (fun w s => s)
  ·intro hJ8
   refine RS.split 36 rfl (fun hc7 => ?_) (fun hc7 => ?_)
   ·refine RS.p (Pu.move rfl) rfl rfl ?_
    refine RS.p (Pu.move rfl) rfl rfl ?_
    refine RS.p (Pu.indexSl sl22 rfl rfl (g9 hc7)) rfl rfl ?_
    refine RS.q (Qt.ld0 (α := Bool) (Rd.base h0) ty4 rfl rfl (g9 hc7) (by rintro _ _ rfl; rfl)) rfl rfl ?_
    refine RS.p (Pu.pickT rfl rfl) rfl rfl ?_
    exact hJ8 _ _ ⟨dAndTB hc7, rfl, rfl, rfl, rfl, trivial⟩ (fun w s => s)
   ·refine RS.no rfl rfl ?_
    refine RS.no rfl rfl ?_
    refine RS.no rfl rfl ?_
    refine RS.no rfl rfl ?_
    refine RS.p (Pu.pickF rfl rfl) rfl rfl ?_
    exact hJ8 _ _ ⟨dAndF (bne_of hc7), rfl, rfl, rfl, rfl, trivial⟩ (fun w s => s)
 ·intro z2 H HX2 hJ2
  refine T.cond rfl (fun hc16 => ?_) (fun hc16 => ?_)
  ·have H := ifT hc16 H
   refine T.conseq (fr' := [(0, _), (1, _), (2, _), (3, _)]) ?_ ⟨rfl, rfl, rfl, rfl, trivial⟩ (fun _ s => s)
   refine T.seq fun K6 hK6 => ?_
   refine T.region ?_
   refine RS.p (Pu.move rfl) rfl rfl ?_
   refine RS.p (Pu.move rfl) rfl rfl ?_
   obtain ⟨g17, H⟩ := gdE H
   refine RS.p (Pu.addS rfl rfl g17) rfl rfl ?_
   refine RS.p (Pu.assign rfl) rfl rfl ?_
   refine RS.nil (hK6 _ _ (T.conseq (fr' := [(0, _), (1, _), (2, _), (3, _), (12, _)]) ?_ ⟨rfl, rfl, rfl, rfl, rfl, trivial⟩ (fun _ s => s)))
   refine T.seq fun K7 hK7 => ?_
   refine T.region ?_
   refine RS.p (Pu.move rfl) rfl rfl ?_
   refine RS.p (Pu.move rfl) rfl rfl ?_
   obtain ⟨g18, H⟩ := gdE H
   refine RS.p (Pu.quoN rfl rfl g18) rfl rfl ?_
   refine RS.p (Pu.move rfl) rfl rfl ?_
   obtain ⟨g19, H⟩ := gdE H
   refine RS.p (Pu.subS rfl rfl g19) rfl rfl ?_
   refine RS.p (Pu.bin rfl rfl rfl) rfl rfl ?_
   refine RS.nil (hK7 _ _ ?_)
   refine T.condP rfl (fun hc20 => ?_) (fun hc20 => ?_)
   ·have H := ifT hc20 H
    refine T.conseq (fr' := []) ?_ trivial (fun _ s => s)
    refine T.seq fun K8 hK8 => ?_
    refine T.region ?_
    refine RS.p (Pu.assign rfl) rfl rfl ?_
    refine RS.p (Pu.assign rfl) rfl rfl ?_
    refine RS.nil (hK8 _ _ ?_)
    obtain rfl := Option.some.inj H
    have H := HX2
    obtain rfl := Option.some.inj H
    refine T.rt (Cont.ret2 rfl rfl rfl fun w' s => ?_)
    exact ⟨rfl, s.ext⟩
   ·have H := ifF hc20 H
    obtain rfl := Option.some.inj H
    refine T.skip (hJ2 _ _ (a3_t + a0_w) () HX2 ⟨rfl, rfl, rfl, trivial⟩ ⟨rfl, trivial⟩ (fun w s => s))
  ·have H := ifB hc16 H
   refine T.conseq (fr' := [(0, _), (2, _), (3, _), (12, _)]) ?_ ⟨rfl, rfl, rfl, rfl, trivial⟩ (fun _ s => s)
   refine T.seq fun K9 hK9 => ?_
   refine T.region ?_
   refine RS.p (Pu.move rfl) rfl rfl ?_
   refine RS.p (Pu.move rfl) rfl rfl ?_
   obtain ⟨g21, H⟩ := gdE H
   refine RS.p (Pu.remN rfl rfl (and3 g21)) rfl rfl ?_
   refine RS.p (Pu.move rfl) rfl rfl ?_
   obtain ⟨g22, H⟩ := gdE H
   refine RS.p (Pu.subS rfl rfl g22) rfl rfl ?_
   refine RS.p (Pu.bin rfl rfl rfl) rfl rfl ?_
   refine RS.nil (hK9 _ _ ?_)
   refine T.condP rfl (fun hc23 => ?_) (fun hc23 => ?_)
   ·have H := ifT hc23 H
    refine T.conseq (fr' := []) ?_ trivial (fun _ s => s)
    refine T.seq fun K10 hK10 => ?_
    refine T.region ?_
    refine RS.p (Pu.assign rfl) rfl rfl ?_
    refine RS.p (Pu.assign rfl) rfl rfl ?_
    refine RS.nil (hK10 _ _ ?_)
    obtain rfl := Option.some.inj H
    have H := HX2
    obtain rfl := Option.some.inj H
    refine T.rt (Cont.ret2 rfl rfl rfl fun w' s => ?_)
    exact ⟨rfl, s.ext⟩
   ·have H := ifF hc23 H
    obtain rfl := Option.some.inj H
    refine T.skip (hJ2 _ _ (a3_t + 1) () HX2 ⟨rfl, rfl, rfl, trivial⟩ ⟨rfl, trivial⟩ (fun w s => s))
theorem throngref10_with_walk (a0_l : List Prt) (a1_p : Prt) (w : World) {v0 : Value} (h0 : R (hpOf w) a0_l [v0]) {r : List Prt} (H : throngref10_with a0_l a1_p = some r) : Calls Try.prog 21 #[v0, .agg #[.int .i64 a1_p.a, .int .i64 a1_p.b, .int .i64 a1_p.width]] w fun e w' => ∃ q1 : (Option Nat × Nat), e = .returned (rowV q1 r.length) ∧ Sat w [row nilH 40 (rowV q1 r.length) r] w' := by
 have hm0 := R_max h0
 obtain ⟨p0, c0, rfl⟩ := R_form h0
 unfold throngref10_with at H
 refine T.enter (args := [_, _]) (S := Sat w []) Try.func21 rfl rfl (Sat.start w) ?_
 refine T.seq fun K1 hK1 => ?_
 refine T.region ?_
 refine RS.solid (Sd.box (cs := [_, _, _]) rfl rfl) rfl rfl fun b1 => ?_
 refine RS.p (Pu.assign rfl) rfl rfl ?_
 refine RS.nil (hK1 _ _ ?_)
 refine T.seq fun K2 hK2 => ?_
 refine T.region ?_
 refine RS.p (Pu.assign rfl) rfl rfl ?_
 refine RS.nil (hK2 _ _ ?_)
 refine T.joinA (σ := Int) (γ := Unit) H (fun s => s) [(0, _), (3, _)] ⟨rfl, rfl, trivial⟩ (fun v3 _ => [(5, .int .i64 v3)]) (fun v3 _ => Sat w [blk b1 [.int .i64 a1_p.a, .int .i64 a1_p.b, .int .i64 a1_p.width] 40]) ?_ ?_
 ·rintro v3 ⟨⟩ H
  try dsimp only [Ex.then] at H
  refine T.conseq (fr' := [(5, _), (0, _), (3, _)]) ?_ ⟨rfl, rfl, rfl, trivial⟩ (fun _ s => s)
  refine T.joinA (σ := List Prt) (γ := (Option Nat × Nat)) H (fun s => s) [(0, _), (5, _)] ⟨rfl, rfl, trivial⟩ (fun v5 q6 => [(6, rowV q6 v5.length)]) (fun v5 q6 => Sat w [blk b1 [.int .i64 a1_p.a, .int .i64 a1_p.b, .int .i64 a1_p.width] 40, row nilH 40 (rowV q6 v5.length) v5]) ?_ ?_
  ·rintro v5 q6 H
   try dsimp only [Ex.then] at H
   refine T.conseq (fr' := [(6, _), (0, _), (5, _)]) ?_ ⟨rfl, rfl, rfl, trivial⟩ (fun _ s => s)
   refine T.seq fun K5 hK5 => ?_
   refine T.region ?_
   refine RS.p (Pu.move rfl) rfl rfl ?_
   refine RS.p (Pu.move rfl) rfl rfl ?_
   refine RS.p (Pu.move rfl) rfl rfl ?_
   obtain ⟨g7, H⟩ := gdE H
   refine RS.p (Pu.sliceL sl27 rfl rfl g7) rfl rfl ?_
   obtain ⟨g9, H⟩ := gdE H
   refine RS.solid (Sd.appR (α := Prt) 1 (nilH_lt _) rfl sl27 zr40 rfl rfl rfl (Rd.drop (Rd.base h0) (le_nat g7) rfl) g9 (by decide)) rfl rfl fun q8 => ?_
   refine RS.p (Pu.assign rfl) rfl rfl ?_
   refine RS.nil (hK5 _ _ (T.conseq (fr' := [(4, _)]) ?_ ⟨rfl, trivial⟩ (fun _ s => s)))
   obtain rfl := Option.some.inj H
   refine T.rt (Cont.ret1 rfl rfl fun w' s => ?_)
   exact ⟨q8, rfl, s.pick [1] (by decide) rfl⟩
  ·intro z4 H HX4 K4 hJ4
   refine T.drawnTS [0] [(0, .pu), (1, .pu), (2, .pu), (3, .so), (4, .wk), (5, .so), (6, .br), (7, .pu)] (.st 0 .pu (.st 1 .pu (.st 2 .pu (.st 4 .wk (.two 3 .so (.st 5 .so (.st 6 .br (.st 7 .pu .nil))) 5 .so (.st 3 .so (.st 6 .br (.st 7 .pu .nil)))))))) mixed (by kernel_rfl) rfl ?_
   refine RT.p (fun w s => s.pick [0] (by decide) rfl) rfl (Pu.move rfl) rfl rfl ?_
   refine RT.p (fun w s => s.pick [0] (by decide) rfl) rfl (Pu.move rfl) rfl rfl ?_
   obtain ⟨g10, H⟩ := gdE H
   refine RT.p (fun w s => s.pick [0] (by decide) rfl) rfl (Pu.sliceH sl27 rfl rfl (le_cap g10 (R_len h0).2.1)) rfl rfl ?_
   refine RT.w (fun w s => s.pick [0] (by decide) rfl) rfl (Qt.ldBA (us := [_, _, _]) 0 ty40 rfl rfl rfl rfl) rfl rfl ?_
   obtain ⟨x11, hx11, H⟩ := bindE H
   obtain ⟨g15, H⟩ := gdE H
   refine RT.two ?_ ?_
   ·refine RT1.solid rfl (.inl rfl) rfl rfl (Sd.callN (vs := [.slice p0 (v3.toNat) c0]) ent29 rfl (fun w s => throngref0_CopyPortals_walk (a0_l.take v3.toNat) w ((Rd.take (Rd.base h0) (le_nat g10)) w s) hx11)) (fun _ => ClE.sat _ _) (fun _ w s => s.pick [0] (by decide) rfl) (fun _ _ _ s => s.drop1) fun q211 => ?_
    refine RT.solid rfl (.inl rfl) rfl rfl (Sd.litS (cs := [_, _, _]) sl27 zr40 rfl rfl rfl rfl rfl) (fun _ => ClE.sat _ _) (fun _ w s => s.pick [0] (by decide) rfl) (fun _ _ _ s => s.drop1) fun b212 => ?_
    refine RT.solid rfl (.inr rfl) rfl rfl (Sd.app1c (α := Prt) 1 2 a1_p rfl rfl (nilH_lt _) sl27 zr40 rfl rfl rfl rfl g15 (by decide)) (fun _ => ClE.sat _ _) (fun _ w s => s.pick [0] (by decide) rfl) (fun h => nomatch h) fun q213 => ?_
    refine RT.p (fun w s => s.pick [0] (by decide) rfl) rfl (Pu.assign rfl) rfl rfl ?_
    obtain rfl := Option.some.inj H
    refine RT.nil (hJ4 _ _ (x11 ++ [a1_p]) q213 HX4 ⟨rfl, rfl, trivial⟩ ⟨rfl, trivial⟩ (fun w s => s.pick [0, 1] (by decide) rfl))
   ·refine RT1.solid rfl (.inl rfl) rfl rfl (Sd.litS (cs := [_, _, _]) sl27 zr40 rfl rfl rfl rfl rfl) (fun _ => ClE.sat _ _) (fun _ w s => s.pick [0] (by decide) rfl) (fun _ _ _ s => s.drop1) fun b214 => ?_
    refine RT.solid rfl (.inl rfl) rfl rfl (Sd.callN (vs := [.slice p0 (v3.toNat) c0]) ent29 rfl (fun w s => throngref0_CopyPortals_walk (a0_l.take v3.toNat) w ((Rd.take (Rd.base h0) (le_nat g10)) w s) hx11)) (fun _ => ClE.sat _ _) (fun _ w s => s.pick [0] (by decide) rfl) (fun _ _ _ s => s.drop1) fun q215 => ?_
    refine RT.solid rfl (.inr rfl) rfl rfl (Sd.app1c (α := Prt) 2 1 a1_p rfl rfl (nilH_lt _) sl27 zr40 rfl rfl rfl rfl g15 (by decide)) (fun _ => ClE.sat _ _) (fun _ w s => s.pick [0] (by decide) rfl) (fun h => nomatch h) fun q216 => ?_
    refine RT.p (fun w s => s.pick [0] (by decide) rfl) rfl (Pu.assign rfl) rfl rfl ?_
    obtain rfl := Option.some.inj H
    refine RT.nil (hJ4 _ _ (x11 ++ [a1_p]) q216 HX4 ⟨rfl, rfl, trivial⟩ ⟨rfl, trivial⟩ (fun w s => s.pick [0, 2] (by decide) rfl))
 ·intro z2 hz2 HX2 K3 hJ2
  refine T.block ?_
  refine T.loopA (γ := Unit) hz2 [(0, _), (3, _)] (fun v217 _ => [(5, .int .i64 v217)]) (fun v217 _ => Sat w [blk b1 [.int .i64 a1_p.a, .int .i64 a1_p.b, .int .i64 a1_p.width] 40]) () ⟨rfl, rfl, trivial⟩ ⟨rfl, trivial⟩ (fun w s => s) ?_
  rintro v217 ⟨⟩ y218 H hd2 KL2 hL2
  try dsimp only [Ex.then] at H
  refine T.conseq (fr' := [(5, _), (0, _), (3, _)]) ?_ ⟨rfl, rfl, rfl, trivial⟩ (fun _ s => s)
  refine T.seq fun K6 hK6 => ?_
  refine T.seq fun K7 hK7 => ?_
  refine T.drawn (fun _ => True) [(0, .pu), (1, .pu), (2, .pu), (3, .pu), (4, .pu), (5, .pu), (6, .pu), (7, .pu), (8, .pu), (9, .rd), (10, .pu), (11, .rd), (12, .pu), (13, .pu), (14, .pu), (15, .pu), (16, .pu), (17, .pu), (18, .rd), (19, .pu), (20, .rd), (21, .pu), (22, .pu), (23, .pu), (24, .pu), (25, .pu), (26, .pu), (27, .rd), (28, .pu), (29, .rd), (30, .pu), (31, .pu), (32, .pu), (33, .pu)] mixed (ClE.sat _ _) (by kernel_rfl) ?_
  refine RD.p (fun _ _ => trivial) rfl (Pu.move rfl) rfl rfl ?_
  refine RD.p (fun _ _ => trivial) rfl (Pu.move rfl) rfl rfl ?_
  refine RD.p (fun _ _ => trivial) rfl (Pu.lenSl sl27 rfl) rfl rfl ?_
  refine RD.p (fun _ _ => trivial) rfl (Pu.bin rfl rfl rfl) rfl rfl ?_
  refine RD.p (fun _ _ => trivial) rfl (Pu.move rfl) rfl rfl ?_
  obtain ⟨g221, H⟩ := gdE H
  obtain ⟨g222, H⟩ := gdE H
  obtain ⟨g223, H⟩ := gdE H
  refine RD.joinV 29 40 (.bool (decide ((v217 < (a0_l.length : Int)) ∧ (((gi a0_l v217).a < a1_p.a) ∨ (((gi a0_l v217).a = a1_p.a) ∧ ((gi a0_l v217).b < a1_p.b)))))) [(0, _), (3, _), (5, _)] ⟨rfl, rfl, rfl, trivial⟩ ?_ ?_
  ·refine RD.nil (hK7 _ _ ?_)
   refine T.condP rfl (fun hc224 => ?_) (fun hc224 => ?_)
   ·have H := ifT hc224 H
    refine T.skip (hK6 _ _ ?_)
    refine T.block ?_
    refine T.region ?_
    refine RS.p (Pu.move rfl) rfl rfl ?_
    obtain ⟨g225, H⟩ := gdE H
    refine RS.p (Pu.addS rfl rfl g225) rfl rfl ?_
    refine RS.p (Pu.assign rfl) rfl rfl ?_
    refine RS.nil (hL2 _ _ (v217 + 1) () H ⟨rfl, rfl, trivial⟩ ⟨rfl, trivial⟩ (fun w s => s))
   ·have H := ifF hc224 H
    obtain rfl := hd2 _ H
    refine T.xt (hJ2 _ _ v217 () HX2 ⟨rfl, rfl, trivial⟩ ⟨rfl, trivial⟩ (fun w s => s))
  ·intro hJ220
   refine RD.splitP 11 rfl (fun hc219 => ?_) (fun hc219 => ?_)
   ·refine RD.p (fun _ _ => trivial) rfl (Pu.move rfl) rfl rfl ?_
    refine RD.p (fun _ _ => trivial) rfl (Pu.move rfl) rfl rfl ?_
    obtain ⟨bl226, ol227, rfl⟩ := R_ptr h0 (ne_of_pos (pos_of (g221 hc219)))
    refine RD.p (fun _ _ => trivial) rfl (Pu.indexSl sl27 rfl rfl (g221 hc219)) rfl rfl ?_
    refine RD.p (fun _ _ => trivial) rfl (Pu.fieldAddr fd40_0 rfl) rfl rfl ?_
    refine RD.q (fun _ _ => trivial) rfl (Qt.ldF (α := Prt) (Rd.base h0) ty3 rfl rfl (g221 hc219) (by rintro _ _ rfl; rfl)) rfl rfl ?_
    refine RD.p (fun _ _ => trivial) rfl (Pu.fieldAddr fd40_0 rfl) rfl rfl ?_
    refine RD.q (fun _ _ => trivial) rfl (Qt.ldB 0 ty3 rfl rfl rfl) rfl rfl ?_
    refine RD.p (fun _ _ => trivial) rfl (Pu.bin rfl rfl rfl) rfl rfl ?_
    refine RD.p (fun _ _ => trivial) rfl (Pu.move rfl) rfl rfl ?_
    refine RD.joinV 19 39 (.bool (decide (((gi a0_l v217).a < a1_p.a) ∨ (((gi a0_l v217).a = a1_p.a) ∧ ((gi a0_l v217).b < a1_p.b))))) [(0, _), (3, _), (5, _), (7, _), (8, _), (9, _), (10, _), (11, _), (12, _), (13, _), (14, _), (15, _), (16, _), (17, _), (18, _), (19, _)] ⟨rfl, rfl, rfl, rfl, rfl, rfl, rfl, rfl, rfl, rfl, rfl, rfl, rfl, rfl, rfl, rfl, trivial⟩ ?_ ?_
    ·refine RD.p (fun _ _ => trivial) rfl (Pu.pickT rfl rfl) rfl rfl ?_
     exact hJ220 _ ⟨dAndT hc219, rfl, rfl, rfl, trivial⟩
    ·intro hJ229
     refine RD.splitP 20 rfl (fun hc228 => ?_) (fun hc228 => ?_)
     ·refine RD.no (fun _ _ => trivial) rfl rfl rfl (.inl rfl) ?_
      refine RD.no (fun _ _ => trivial) rfl rfl rfl (.inl rfl) ?_
      refine RD.no (fun _ _ => trivial) rfl rfl rfl (.inl rfl) ?_
      refine RD.no (fun _ _ => trivial) rfl rfl rfl (.inl rfl) ?_
      refine RD.no (fun _ _ => trivial) rfl rfl rfl (.inr (.inr rfl)) ?_
      refine RD.no (fun _ _ => trivial) rfl rfl rfl (.inl rfl) ?_
      refine RD.no (fun _ _ => trivial) rfl rfl rfl (.inr (.inr rfl)) ?_
      refine RD.no (fun _ _ => trivial) rfl rfl rfl (.inl rfl) ?_
      refine RD.no (fun _ _ => trivial) rfl rfl rfl (.inl rfl) ?_
      refine RD.no (fun _ _ => trivial) rfl rfl rfl (.inl rfl) ?_
      refine RD.no (fun _ _ => trivial) rfl rfl rfl (.inl rfl) ?_
      refine RD.no (fun _ _ => trivial) rfl rfl rfl (.inl rfl) ?_
      refine RD.no (fun _ _ => trivial) rfl rfl rfl (.inl rfl) ?_
      refine RD.no (fun _ _ => trivial) rfl rfl rfl (.inr (.inr rfl)) ?_
      refine RD.no (fun _ _ => trivial) rfl rfl rfl (.inl rfl) ?_
      refine RD.no (fun _ _ => trivial) rfl rfl rfl (.inr (.inr rfl)) ?_
      refine RD.no (fun _ _ => trivial) rfl rfl rfl (.inl rfl) ?_
      refine RD.no (fun _ _ => trivial) rfl rfl rfl (.inl rfl) ?_
      refine RD.p (fun _ _ => trivial) rfl (Pu.pickT rfl rfl) rfl rfl ?_
      exact hJ229 _ ⟨dOrT hc228, rfl, rfl, rfl, rfl, rfl, rfl, rfl, rfl, rfl, rfl, rfl, rfl, rfl, rfl, rfl, rfl, trivial⟩
     ·refine RD.p (fun _ _ => trivial) rfl (Pu.move rfl) rfl rfl ?_
      refine RD.p (fun _ _ => trivial) rfl (Pu.move rfl) rfl rfl ?_
      refine RD.p (fun _ _ => trivial) rfl (Pu.indexSl sl27 rfl rfl ((g222 hc219) hc228)) rfl rfl ?_
      refine RD.p (fun _ _ => trivial) rfl (Pu.fieldAddr fd40_0 rfl) rfl rfl ?_
      refine RD.q (fun _ _ => trivial) rfl (Qt.ldF (α := Prt) (Rd.base h0) ty3 rfl rfl ((g222 hc219) hc228) (by rintro _ _ rfl; rfl)) rfl rfl ?_
      refine RD.p (fun _ _ => trivial) rfl (Pu.fieldAddr fd40_0 rfl) rfl rfl ?_
      refine RD.q (fun _ _ => trivial) rfl (Qt.ldB 0 ty3 rfl rfl rfl) rfl rfl ?_
      refine RD.p (fun _ _ => trivial) rfl (Pu.bin rfl rfl rfl) rfl rfl ?_
      refine RD.p (fun _ _ => trivial) rfl (Pu.move rfl) rfl rfl ?_
      refine RD.joinV 9 38 (.bool (decide (((gi a0_l v217).a = a1_p.a) ∧ ((gi a0_l v217).b < a1_p.b)))) [(0, _), (3, _), (5, _), (7, _), (8, _), (9, _), (10, _), (11, _), (12, _), (13, _), (14, _), (15, _), (16, _), (17, _), (18, _), (19, _), (20, _), (21, _), (22, _), (23, _), (24, _), (25, _), (26, _), (27, _), (28, _)] ⟨rfl, rfl, rfl, rfl, rfl, rfl, rfl, rfl, rfl, rfl, rfl, rfl, rfl, rfl, rfl, rfl, rfl, rfl, rfl, rfl, rfl, rfl, rfl, rfl, rfl, trivial⟩ ?_ ?_
      ·refine RD.p (fun _ _ => trivial) rfl (Pu.pickF rfl rfl) rfl rfl ?_
       exact hJ229 _ ⟨dOrF hc228, rfl, rfl, rfl, rfl, rfl, rfl, rfl, rfl, rfl, rfl, rfl, rfl, rfl, rfl, rfl, rfl, trivial⟩
      ·intro hJ231
       refine RD.splitP 29 rfl (fun hc230 => ?_) (fun hc230 => ?_)
       ·refine RD.p (fun _ _ => trivial) rfl (Pu.move rfl) rfl rfl ?_
        refine RD.p (fun _ _ => trivial) rfl (Pu.move rfl) rfl rfl ?_
        refine RD.p (fun _ _ => trivial) rfl (Pu.indexSl sl27 rfl rfl (((g223 hc219) hc228) hc230)) rfl rfl ?_
        refine RD.p (fun _ _ => trivial) rfl (Pu.fieldAddr fd40_1 rfl) rfl rfl ?_
        refine RD.q (fun _ _ => trivial) rfl (Qt.ldF (α := Prt) (Rd.base h0) ty3 rfl rfl (((g223 hc219) hc228) hc230) (by rintro _ _ rfl; rfl)) rfl rfl ?_
        refine RD.p (fun _ _ => trivial) rfl (Pu.fieldAddr fd40_1 rfl) rfl rfl ?_
        refine RD.q (fun _ _ => trivial) rfl (Qt.ldB 0 ty3 rfl rfl rfl) rfl rfl ?_
        refine RD.p (fun _ _ => trivial) rfl (Pu.bin rfl rfl rfl) rfl rfl ?_
        refine RD.p (fun _ _ => trivial) rfl (Pu.pickT rfl rfl) rfl rfl ?_
        exact hJ231 _ ⟨dAndT hc230, rfl, rfl, rfl, rfl, rfl, rfl, rfl, rfl, rfl, rfl, rfl, rfl, rfl, rfl, rfl, rfl, rfl, rfl, rfl, rfl, rfl, rfl, rfl, rfl, rfl, trivial⟩
       ·refine RD.no (fun _ _ => trivial) rfl rfl rfl (.inl rfl) ?_
        refine RD.no (fun _ _ => trivial) rfl rfl rfl (.inl rfl) ?_
        refine RD.no (fun _ _ => trivial) rfl rfl rfl (.inl rfl) ?_
        refine RD.no (fun _ _ => trivial) rfl rfl rfl (.inl rfl) ?_
        refine RD.no (fun _ _ => trivial) rfl rfl rfl (.inr (.inr rfl)) ?_
        refine RD.no (fun _ _ => trivial) rfl rfl rfl (.inl rfl) ?_
        refine RD.no (fun _ _ => trivial) rfl rfl rfl (.inr (.inr rfl)) ?_
        refine RD.no (fun _ _ => trivial) rfl rfl rfl (.inl rfl) ?_
        refine RD.p (fun _ _ => trivial) rfl (Pu.pickF rfl rfl) rfl rfl ?_
        exact hJ231 _ ⟨dAndF hc230, rfl, rfl, rfl, rfl, rfl, rfl, rfl, rfl, rfl, rfl, rfl, rfl, rfl, rfl, rfl, rfl, rfl, rfl, rfl, rfl, rfl, rfl, rfl, rfl, rfl, trivial⟩
   ·refine RD.no (fun _ _ => trivial) rfl rfl rfl (.inl rfl) ?_
    refine RD.no (fun _ _ => trivial) rfl rfl rfl (.inl rfl) ?_
    refine RD.no (fun _ _ => trivial) rfl rfl rfl (.inl rfl) ?_
    refine RD.no (fun _ _ => trivial) rfl rfl rfl (.inl rfl) ?_
    refine RD.no (fun _ _ => trivial) rfl rfl rfl (.inr (.inr rfl)) ?_
    refine RD.no (fun _ _ => trivial) rfl rfl rfl (.inl rfl) ?_
    refine RD.no (fun _ _ => trivial) rfl rfl rfl (.inr (.inr rfl)) ?_
    refine RD.no (fun _ _ => trivial) rfl rfl rfl (.inl rfl) ?_
    refine RD.no (fun _ _ => trivial) rfl rfl rfl (.inl rfl) ?_
    refine RD.no (fun _ _ => trivial) rfl rfl rfl (.inl rfl) ?_
    refine RD.no (fun _ _ => trivial) rfl rfl rfl (.inl rfl) ?_
    refine RD.no (fun _ _ => trivial) rfl rfl rfl (.inl rfl) ?_
    refine RD.no (fun _ _ => trivial) rfl rfl rfl (.inl rfl) ?_
    refine RD.no (fun _ _ => trivial) rfl rfl rfl (.inr (.inr rfl)) ?_
    refine RD.no (fun _ _ => trivial) rfl rfl rfl (.inl rfl) ?_
    refine RD.no (fun _ _ => trivial) rfl rfl rfl (.inr (.inr rfl)) ?_
    refine RD.no (fun _ _ => trivial) rfl rfl rfl (.inl rfl) ?_
    refine RD.no (fun _ _ => trivial) rfl rfl rfl (.inl rfl) ?_
    refine RD.no (fun _ _ => trivial) rfl rfl rfl (.inl rfl) ?_
    refine RD.no (fun _ _ => trivial) rfl rfl rfl (.inl rfl) ?_
    refine RD.no (fun _ _ => trivial) rfl rfl rfl (.inl rfl) ?_
    refine RD.no (fun _ _ => trivial) rfl rfl rfl (.inl rfl) ?_
    refine RD.no (fun _ _ => trivial) rfl rfl rfl (.inr (.inr rfl)) ?_
    refine RD.no (fun _ _ => trivial) rfl rfl rfl (.inl rfl) ?_
    refine RD.no (fun _ _ => trivial) rfl rfl rfl (.inr (.inr rfl)) ?_
    refine RD.no (fun _ _ => trivial) rfl rfl rfl (.inl rfl) ?_
    refine RD.no (fun _ _ => trivial) rfl rfl rfl (.inl rfl) ?_
    refine RD.no (fun _ _ => trivial) rfl rfl rfl (.inl rfl) ?_
    refine RD.p (fun _ _ => trivial) rfl (Pu.pickF rfl rfl) rfl rfl ?_
    exact hJ220 _ ⟨dAndF hc219, rfl, rfl, rfl, trivial⟩
theorem throngref10_Find_walk (a0_w : Int) (a1_h : Int) (a2_free : List Bool) (w : World) {v0 : Value} (h0 : R (hpOf w) a2_free [v0]) {r : List Prt} (H : throngref10_Find a0_w a1_h a2_free = some r) : Calls Try.prog 9 #[.int .i64 a0_w, .int .i64 a1_h, v0] w fun e w' => ∃ q1 : (Option Nat × Nat), e = .returned (rowV q1 r.length) ∧ Sat w [row nilH 40 (rowV q1 r.length) r] w' := by
 have hm0 := R_max h0
 obtain ⟨p0, c0, rfl⟩ := R_form h0
 unfold throngref10_Find at H
 refine T.enter (args := [_, _, _]) (S := Sat w []) Try.func9 rfl rfl (Sat.start w) ?_
 refine T.seq fun K1 hK1 => ?_
 refine T.region ?_
 refine RS.p (Pu.assign rfl) rfl rfl ?_
 refine RS.nil (hK1 _ _ ?_)
 refine T.seq fun K2 hK2 => ?_
 refine T.region ?_
 refine RS.p (Pu.assign rfl) rfl rfl ?_
 refine RS.nil (hK2 _ _ ?_)
 refine T.seq fun K3 hK3 => ?_
 refine T.seq fun K4 hK4 => ?_
 refine T.region ?_
 refine RS.p (Pu.assign rfl) rfl rfl ?_
 refine RS.nil (hK4 _ _ ?_)
 refine T.joinE (σ := List Prt) (γ := (Option Nat × Nat)) H (fun s => s) [] trivial (fun v2 q3 => [(7, rowV q3 v2.length)]) (fun v2 q3 => Sat w [row nilH 40 (rowV q3 v2.length) v2]) ?_ ?_
 ·rintro v2 q3 H
  try dsimp only [Ex.then] at H
  refine Cont.conseq (fr' := [(7, _)]) ?_ ⟨rfl, trivial⟩ (fun _ s => s)
  refine id (hK3 _ _ ?_)
  refine T.seq fun K5 hK5 => ?_
  refine T.region ?_
  refine RS.p (Pu.move rfl) rfl rfl ?_
  refine RS.p (Pu.assign rfl) rfl rfl ?_
  refine RS.nil (hK5 _ _ ?_)
  obtain rfl := Option.some.inj H
  refine T.rt (Cont.ret1 rfl rfl fun w' s => ?_)
  exact ⟨q3, rfl, s.pick [0] (by decide) rfl⟩
 ·intro z1 hz1 HX1 hJ1
  refine T.block ?_
  refine T.loopA (γ := (Option Nat × Nat)) hz1 [(0, _), (1, _), (2, _)] (fun (l4, v6) q5 => [(7, rowV q5 l4.length), (8, .int .i64 v6)]) (fun (l4, v6) q5 => Sat w [row nilH 40 (rowV q5 l4.length) l4]) (none, 0) ⟨rfl, rfl, rfl, trivial⟩ ⟨rfl, rfl, trivial⟩ (fun w s => (s.nilRow (α := Prt) 40).pick [0] (by decide) rfl) ?_
  rintro ⟨l4, v6⟩ q5 y7 H hd1 KL1 hL1
  try dsimp only [Ex.then] at H
  refine T.conseq (fr' := [(7, _), (8, _), (0, _), (1, _), (2, _)]) ?_ ⟨rfl, rfl, rfl, rfl, rfl, trivial⟩ (fun _ s => s)
  refine T.seq fun K6 hK6 => ?_
  refine T.seq fun K7 hK7 => ?_
  refine T.region ?_
  refine RS.p (Pu.move rfl) rfl rfl ?_
  refine RS.p (Pu.bin rfl rfl rfl) rfl rfl ?_
  refine RS.nil (hK7 _ _ ?_)
  refine T.condP rfl (fun hc8 => ?_) (fun hc8 => ?_)
  ·have H := ifT hc8 H
   refine T.skip (hK6 _ _ ?_)
   refine T.seq fun K8 hK8 => ?_
   refine T.block ?_
   refine T.seq fun K9 hK9 => ?_
   refine T.region ?_
   refine RS.p (Pu.move rfl) rfl rfl ?_
   refine RS.p (Pu.bin rfl rfl rfl) rfl rfl ?_
   refine RS.p (Pu.assign rfl) rfl rfl ?_
   refine RS.nil (hK9 _ _ (T.conseq (fr' := [(0, _), (1, _), (2, _), (7, _), (8, _), (9, _)]) ?_ ⟨rfl, rfl, rfl, rfl, rfl, rfl, trivial⟩ (fun _ s => s)))
   refine T.seq fun K10 hK10 => ?_
   refine T.region ?_
   refine RS.p (Pu.move rfl) rfl rfl ?_
   refine RS.p (Pu.assign rfl) rfl rfl ?_
   refine RS.nil (hK10 _ _ ?_)
   refine T.seq fun K11 hK11 => ?_
   refine T.seq fun K12 hK12 => ?_
   refine T.region ?_
   refine RS.p (Pu.move rfl) rfl rfl ?_
   refine RS.nil (hK12 _ _ ?_)
   refine T.joinE (σ := Int) (γ := Unit) H (fun s => s) [(0, _), (1, _), (2, _), (7, _), (8, _), (9, _)] ⟨rfl, rfl, rfl, rfl, rfl, rfl, trivial⟩ (fun v10 _ => [(10, .int .i64 v10)]) (fun v10 _ => Sat w [row nilH 40 (rowV q5 l4.length) l4]) ?_ ?_
   ·rintro v10 ⟨⟩ H
    try dsimp only [Ex.then] at H
    refine Cont.conseq (fr' := [(10, _), (0, _), (1, _), (2, _), (7, _), (8, _), (9, _)]) ?_ ⟨rfl, rfl, rfl, rfl, rfl, rfl, rfl, trivial⟩ (fun _ s => s)
    refine id (hK11 _ _ ?_)
    refine T.seq fun K13 hK13 => ?_
    refine T.region ?_
    refine RS.p (Pu.assign rfl) rfl rfl ?_
    refine RS.nil (hK13 _ _ ?_)
    refine T.joinE (σ := List Prt) (γ := (Option Nat × Nat)) H (fun s => s) [(0, _), (1, _), (2, _), (8, _)] ⟨rfl, rfl, rfl, rfl, trivial⟩ (fun v12 q13 => [(7, rowV q13 v12.length)]) (fun v12 q13 => Sat w [row nilH 40 (rowV q13 v12.length) v12]) ?_ ?_
    ·rintro v12 q13 H
     try dsimp only [Ex.then] at H
     refine Cont.conseq (fr' := [(7, _), (0, _), (1, _), (2, _), (8, _)]) ?_ ⟨rfl, rfl, rfl, rfl, rfl, trivial⟩ (fun _ s => s)
     refine id (hK8 _ _ ?_)
     refine T.region ?_
     refine RS.p (Pu.move rfl) rfl rfl ?_
     obtain ⟨g14, H⟩ := gdE H
     refine RS.p (Pu.addS rfl rfl g14) rfl rfl ?_
     refine RS.p (Pu.assign rfl) rfl rfl ?_
     refine RS.nil (hL1 _ _ (v12, (v6 + 1)) q13 H ⟨rfl, rfl, rfl, trivial⟩ ⟨rfl, rfl, trivial⟩ (fun w s => s))
    ·intro z11 hz11 HX11 hJ11
     refine T.block ?_
     refine T.loopA (γ := (Option Nat × Nat)) hz11 [(0, _), (1, _), (2, _), (8, _), (9, _), (10, _)] (fun (v15, l16) q17 => [(7, rowV q17 l16.length), (11, .int .i64 v15)]) (fun (v15, l16) q17 => Sat w [row nilH 40 (rowV q17 l16.length) l16]) q5 ⟨rfl, rfl, rfl, rfl, rfl, rfl, trivial⟩ ⟨rfl, rfl, trivial⟩ (fun w s => s) ?_
     rintro ⟨v15, l16⟩ q17 y18 H hd11 KL11 hL11
     try dsimp only [Ex.then] at H
     refine T.conseq (fr' := [(7, _), (11, _), (0, _), (1, _), (2, _), (8, _), (9, _), (10, _)]) ?_ ⟨rfl, rfl, rfl, rfl, rfl, rfl, rfl, rfl, trivial⟩ (fun _ s => s)
     refine T.seq fun K14 hK14 => ?_
     refine T.seq fun K15 hK15 => ?_
     refine T.region ?_
     refine RS.p (Pu.move rfl) rfl rfl ?_
     refine RS.p (Pu.move rfl) rfl rfl ?_
     refine RS.p (Pu.move rfl) rfl rfl ?_
     obtain ⟨g19, H⟩ := gdE H
     refine RS.p (Pu.mulS rfl rfl g19) rfl rfl ?_
     refine RS.p (Pu.bin rfl rfl rfl) rfl rfl ?_
     refine RS.nil (hK15 _ _ ?_)
     refine T.condP rfl (fun hc20 => ?_) (fun hc20 => ?_)
     ·have H := ifT hc20 H
      refine T.skip (hK14 _ _ (T.conseq (fr' := [(0, _), (1, _), (2, _), (7, _), (8, _), (9, _), (10, _), (11, _)]) ?_ ⟨rfl, rfl, rfl, rfl, rfl, rfl, rfl, rfl, trivial⟩ (fun _ s => s)))
      refine T.joinA (σ := List Prt) (γ := (Option Nat × Nat)) H (fun s => s) [(0, _), (1, _), (2, _), (8, _), (9, _), (10, _), (11, _)] ⟨rfl, rfl, rfl, rfl, rfl, rfl, rfl, trivial⟩ (fun v22 q23 => [(7, rowV q23 v22.length)]) (fun v22 q23 => Sat w [dead, row nilH 40 (rowV q23 v22.length) v22]) ?_ ?_
      ·rintro v22 q23 H
       try dsimp only [Ex.then] at H
       refine T.conseq (fr' := [(7, _), (0, _), (1, _), (2, _), (8, _), (9, _), (10, _), (11, _)]) ?_ ⟨rfl, rfl, rfl, rfl, rfl, rfl, rfl, rfl, trivial⟩ (fun _ s => s)
       refine T.region ?_
       refine RS.p (Pu.move rfl) rfl rfl ?_
       obtain ⟨g24, H⟩ := gdE H
       refine RS.p (Pu.addS rfl rfl g24) rfl rfl ?_
       refine RS.p (Pu.assign rfl) rfl rfl ?_
       refine RS.nil (hL11 _ _ ((v15 + 1), v22) q23 H ⟨rfl, rfl, rfl, rfl, rfl, rfl, trivial⟩ ⟨rfl, rfl, trivial⟩ (fun w s => s.pick [1] (by decide) rfl))
      ·intro z21 H HX21 K16 hJ21
       refine T.block ?_
       refine T.seq fun K17 hK17 => ?_
       refine T.region ?_
       refine RS.p (Pu.move rfl) rfl rfl ?_
       refine RS.p (Pu.move rfl) rfl rfl ?_
       refine RS.p (Pu.move rfl) rfl rfl ?_
       refine RS.p (Pu.move rfl) rfl rfl ?_
       refine RS.p (Pu.move rfl) rfl rfl ?_
       obtain ⟨x25, hx25, H⟩ := bindE H
       refine RS.q (Qt.call (vs := [.int .i64 a0_w, .int .i64 a1_h, .slice p0 a2_free.length c0, .int .i64 v15, .bool (decide (v6 = 1))]) ent19 rfl fun w s => throngref10_pair_walk a0_w a1_h a2_free v15 (decide (v6 = 1)) w ((Rd.base h0) w s) hx25) rfl rfl ?_
       refine RS.p (Pu.move rfl) rfl rfl ?_
       refine RS.p (Pu.extract rfl rfl) rfl rfl ?_
       refine RS.p (Pu.extract rfl rfl) rfl rfl ?_
       refine RS.p (Pu.assign rfl) rfl rfl ?_
       refine RS.p (Pu.assign rfl) rfl rfl ?_
       refine RS.nil (hK17 _ _ (T.conseq (fr' := [(0, _), (1, _), (2, _), (7, _), (8, _), (9, _), (10, _), (11, _), (12, _), (13, _)]) ?_ ⟨rfl, rfl, rfl, rfl, rfl, rfl, rfl, rfl, rfl, rfl, trivial⟩ (fun _ s => s)))
       refine T.seq fun K18 hK18 => ?_
       refine T.seq fun K19 hK19 => ?_
       refine T.region ?_
       refine RS.p (Pu.move rfl) rfl rfl ?_
       refine RS.p (Pu.not rfl) rfl rfl ?_
       refine RS.nil (hK19 _ _ ?_)
       refine T.cond rfl (fun hc26 => ?_) (fun hc26 => ?_)
       ·have H := ifT hc26 H
        obtain rfl := Option.some.inj H
        refine T.xt (hJ21 _ _ l16 q17 HX21 ⟨rfl, rfl, rfl, rfl, rfl, rfl, rfl, trivial⟩ ⟨rfl, trivial⟩ (fun w s => (s.deadRow).pick [1, 0] (by decide) rfl))
       ·have H := ifB hc26 H
        refine T.skip (hK18 _ _ (T.conseq (fr' := [(0, _), (1, _), (2, _), (7, _), (8, _), (9, _), (10, _), (11, _), (12, _)]) ?_ ⟨rfl, rfl, rfl, rfl, rfl, rfl, rfl, rfl, rfl, trivial⟩ (fun _ s => s)))
        refine T.seq fun K20 hK20 => ?_
        refine T.seq fun K21 hK21 => ?_
        refine T.region ?_
        refine RS.p (Pu.move rfl) rfl rfl ?_
        refine RS.p (Pu.move rfl) rfl rfl ?_
        obtain ⟨g27, H⟩ := gdE H
        refine RS.p (Pu.subS rfl rfl g27) rfl rfl ?_
        refine RS.p (Pu.bin rfl rfl rfl) rfl rfl ?_
        refine RS.p (Pu.move rfl) rfl rfl ?_
        obtain ⟨g30, H⟩ := gdE H
        refine RS.joinV 9 60 (.bool (decide ((0 ≤ (v15 - v10)) ∧ ((¬ (v6 = 1)) ∨ (0 < (v15 % a0_w)))))) [(0, _), (1, _), (2, _), (7, _), (8, _), (9, _), (10, _), (11, _), (12, _)] ⟨rfl, rfl, rfl, rfl, rfl, rfl, rfl, rfl, rfl, trivial⟩ ?_ ?_
        ·refine RS.nil (hK21 _ _ ?_)
         refine T.joinE (σ := Unit) (γ := Unit) H Ex.go [(0, _), (1, _), (2, _), (7, _), (8, _), (9, _), (10, _), (11, _), (12, _)] ⟨rfl, rfl, rfl, rfl, rfl, rfl, rfl, rfl, rfl, trivial⟩ (fun _ _ => []) (fun _ _ => Sat w [row nilH 40 (rowV q17 l16.length) l16]) ?_ ?_
         ·rintro ⟨⟩ ⟨⟩ H
          try dsimp only [Ex.then] at H
          refine Cont.conseq (fr' := [(0, _), (1, _), (2, _), (7, _), (8, _), (9, _), (10, _), (11, _), (12, _)]) ?_ ⟨rfl, rfl, rfl, rfl, rfl, rfl, rfl, rfl, rfl, trivial⟩ (fun _ s => s)
          refine id (hK20 _ _ ?_)
          refine T.seq fun K22 hK22 => ?_
          refine T.region ?_
          refine RS.p (Pu.assign rfl) rfl rfl ?_
          refine RS.nil (hK22 _ _ ?_)
          refine T.joinA (σ := Int) (γ := Unit) H (fun s => s) [(0, _), (1, _), (2, _), (7, _), (8, _), (9, _), (10, _), (11, _), (12, _)] ⟨rfl, rfl, rfl, rfl, rfl, rfl, rfl, rfl, rfl, trivial⟩ (fun v33 _ => [(16, .int .i64 v33)]) (fun v33 _ => Sat w [row nilH 40 (rowV q17 l16.length) l16]) ?_ ?_
          ·rintro v33 ⟨⟩ H
           try dsimp only [Ex.then] at H
           refine T.conseq (fr' := [(16, _), (0, _), (1, _), (2, _), (7, _), (8, _), (9, _), (10, _), (11, _), (12, _)]) ?_ ⟨rfl, rfl, rfl, rfl, rfl, rfl, rfl, rfl, rfl, rfl, trivial⟩ (fun _ s => s)
           refine T.seq fun K24 hK24 => ?_
           refine T.region ?_
           refine RS.p (Pu.move rfl) rfl rfl ?_
           obtain ⟨g34, H⟩ := gdE H
           refine RS.p (Pu.subS rfl rfl g34) rfl rfl ?_
           obtain ⟨g35, H⟩ := gdE H
           refine RS.p (Pu.quoN rfl rfl ⟨g35.1, g35.2, by decide⟩) rfl rfl ?_
           refine RS.p (Pu.move rfl) rfl rfl ?_
           obtain ⟨g36, H⟩ := gdE H
           refine RS.p (Pu.mulS rfl rfl g36) rfl rfl ?_
           refine RS.p (Pu.assign rfl) rfl rfl ?_
           refine RS.nil (hK24 _ _ (T.conseq (fr' := [(0, _), (1, _), (2, _), (7, _), (8, _), (9, _), (10, _), (11, _), (12, _), (16, _), (20, _)]) ?_ ⟨rfl, rfl, rfl, rfl, rfl, rfl, rfl, rfl, rfl, rfl, rfl, trivial⟩ (fun _ s => s)))
           refine T.region ?_
           refine RS.p (Pu.move rfl) rfl rfl ?_
           refine RS.p (Pu.move rfl) rfl rfl ?_
           refine RS.p (Pu.move rfl) rfl rfl ?_
           obtain ⟨g37, H⟩ := gdE H
           refine RS.p (Pu.addS rfl rfl g37) rfl rfl ?_
           refine RS.p (Pu.move rfl) rfl rfl ?_
           refine RS.p (Pu.move rfl) rfl rfl ?_
           obtain ⟨g38, H⟩ := gdE H
           refine RS.p (Pu.addS rfl rfl g38) rfl rfl ?_
           refine RS.p (Pu.move rfl) rfl rfl ?_
           refine RS.p (Pu.build (cells := [_, _, _]) st40 rfl rfl) rfl rfl ?_
           obtain ⟨x39, hx39, H⟩ := bindE H
           refine RS.solid (Sd.callN (vs := [rowV q17 l16.length, .agg #[.int .i64 (v15 + (((v33 - 1) / 2) * v10)), .int .i64 (x25.1 + (((v33 - 1) / 2) * v10)), .int .i64 v33]]) ent21 rfl (fun w s => throngref10_with_walk l16 (⟨(v15 + (((v33 - 1) / 2) * v10)), (x25.1 + (((v33 - 1) / 2) * v10)), v33⟩ : Prt) w ((Rd.ofRowN 0 rfl) w s) hx39)) rfl rfl fun q40 => ?_
           refine RS.p (Pu.assign rfl) rfl rfl ?_
           obtain rfl := Option.some.inj H
           refine RS.nil (hJ21 _ _ x39 q40 HX21 ⟨rfl, rfl, rfl, rfl, rfl, rfl, rfl, trivial⟩ ⟨rfl, trivial⟩ (fun w s => (s.deadRow).pick [2, 1] (by decide) rfl))
          ·intro z32 hz32 HX32 K23 hJ32
           refine T.block ?_
           refine T.loopA (γ := Unit) hz32 [(0, _), (1, _), (2, _), (7, _), (8, _), (9, _), (10, _), (11, _), (12, _)] (fun v41 _ => [(16, .int .i64 v41)]) (fun v41 _ => Sat w [row nilH 40 (rowV q17 l16.length) l16]) () ⟨rfl, rfl, rfl, rfl, rfl, rfl, rfl, rfl, rfl, trivial⟩ ⟨rfl, trivial⟩ (fun w s => s) ?_
           rintro v41 ⟨⟩ y42 H hd32 KL32 hL32
           try dsimp only [Ex.then] at H
           refine T.conseq (fr' := [(16, _), (0, _), (1, _), (2, _), (7, _), (8, _), (9, _), (10, _), (11, _), (12, _)]) ?_ ⟨rfl, rfl, rfl, rfl, rfl, rfl, rfl, rfl, rfl, rfl, trivial⟩ (fun _ s => s)
           refine T.block ?_
           refine T.seq fun K25 hK25 => ?_
           refine T.region ?_
           refine RS.p (Pu.move rfl) rfl rfl ?_
           refine RS.p (Pu.move rfl) rfl rfl ?_
           refine RS.p (Pu.move rfl) rfl rfl ?_
           obtain ⟨g43, H⟩ := gdE H
           refine RS.p (Pu.mulS rfl rfl g43) rfl rfl ?_
           obtain ⟨g44, H⟩ := gdE H
           refine RS.p (Pu.addS rfl rfl g44) rfl rfl ?_
           refine RS.p (Pu.assign rfl) rfl rfl ?_
           refine RS.nil (hK25 _ _ (T.conseq (fr' := [(0, _), (1, _), (2, _), (7, _), (8, _), (9, _), (10, _), (11, _), (12, _), (16, _), (17, _)]) ?_ ⟨rfl, rfl, rfl, rfl, rfl, rfl, rfl, rfl, rfl, rfl, rfl, trivial⟩ (fun _ s => s)))
           refine T.seq fun K26 hK26 => ?_
           refine T.seq fun K27 hK27 => ?_
           refine T.drawn (fun _ => True) [(0, .pu), (1, .pu), (2, .pu), (3, .pu), (4, .pu), (5, .pu), (6, .pu), (7, .pu), (8, .pu), (9, .pu), (10, .pu), (11, .pu), (12, .pu), (13, .pu), (14, .pu), (15, .pu), (16, .pu)] mixed (ClE.sat _ _) (by kernel_rfl) ?_
           refine RD.p (fun _ _ => trivial) rfl (Pu.move rfl) rfl rfl ?_
           refine RD.p (fun _ _ => trivial) rfl (Pu.move rfl) rfl rfl ?_
           refine RD.p (fun _ _ => trivial) rfl (Pu.move rfl) rfl rfl ?_
           obtain ⟨g45, H⟩ := gdE H
           refine RD.p (fun _ _ => trivial) rfl (Pu.mulS rfl rfl g45) rfl rfl ?_
           refine RD.p (fun _ _ => trivial) rfl (Pu.bin rfl rfl rfl) rfl rfl ?_
           refine RD.p (fun _ _ => trivial) rfl (Pu.move rfl) rfl rfl ?_
           obtain ⟨g48, H⟩ := gdE H
           obtain ⟨g49, H⟩ := gdE H
           refine RD.joinV 11 114 (.bool (decide (((a0_w * a1_h) ≤ (v15 + (v41 * v10))) ∨ ((v6 = 1) ∧ (¬ ((v15 + (v41 * v10)) / a0_w) = (v15 / a0_w)))))) [(0, _), (1, _), (2, _), (7, _), (8, _), (9, _), (10, _), (11, _), (12, _), (16, _), (17, _)] ⟨rfl, rfl, rfl, rfl, rfl, rfl, rfl, rfl, rfl, rfl, rfl, trivial⟩ ?_ ?_
           ·refine RD.nil (hK27 _ _ ?_)
            refine T.condP rfl (fun hc50 => ?_) (fun hc50 => ?_)
            ·have H := ifT hc50 H
             obtain rfl := hd32 _ H
             refine T.xt (hJ32 _ _ v41 () HX32 ⟨rfl, rfl, rfl, rfl, rfl, rfl, rfl, rfl, rfl, trivial⟩ ⟨rfl, trivial⟩ (fun w s => s))
            ·have H := ifF hc50 H
             refine T.skip (hK26 _ _ ?_)
             refine T.seq fun K28 hK28 => ?_
             refine T.region ?_
             refine RS.p (Pu.move rfl) rfl rfl ?_
             refine RS.p (Pu.move rfl) rfl rfl ?_
             refine RS.p (Pu.move rfl) rfl rfl ?_
             refine RS.p (Pu.move rfl) rfl rfl ?_
             refine RS.p (Pu.move rfl) rfl rfl ?_
             obtain ⟨x51, hx51, H⟩ := bindE H
             refine RS.q (Qt.call (vs := [.int .i64 a0_w, .int .i64 a1_h, .slice p0 a2_free.length c0, .int .i64 (v15 + (v41 * v10)), .bool (decide (v6 = 1))]) ent19 rfl fun w s => throngref10_pair_walk a0_w a1_h a2_free (v15 + (v41 * v10)) (decide (v6 = 1)) w ((Rd.base h0) w s) hx51) rfl rfl ?_
             refine RS.p (Pu.move rfl) rfl rfl ?_
             refine RS.p (Pu.extract rfl rfl) rfl rfl ?_
             refine RS.p (Pu.extract rfl rfl) rfl rfl ?_
             refine RS.p (Pu.assign rfl) rfl rfl ?_
             refine RS.p (Pu.assign rfl) rfl rfl ?_
             refine RS.nil (hK28 _ _ (T.conseq (fr' := [(0, _), (1, _), (2, _), (7, _), (8, _), (9, _), (10, _), (11, _), (12, _), (16, _), (17, _), (18, _), (19, _)]) ?_ ⟨rfl, rfl, rfl, rfl, rfl, rfl, rfl, rfl, rfl, rfl, rfl, rfl, rfl, trivial⟩ (fun _ s => s)))
             refine T.seq fun K29 hK29 => ?_
             refine T.seq fun K30 hK30 => ?_
             refine T.region ?_
             refine RS.p (Pu.move rfl) rfl rfl ?_
             refine RS.p (Pu.not rfl) rfl rfl ?_
             refine RS.p (Pu.move rfl) rfl rfl ?_
             refine RS.joinB H 8 134 (fun b54 => .bool b54) [(0, _), (1, _), (2, _), (7, _), (8, _), (9, _), (10, _), (11, _), (12, _), (16, _), (18, _)] ⟨rfl, rfl, rfl, rfl, rfl, rfl, rfl, rfl, rfl, rfl, rfl, trivial⟩ ?_ ?_
             ·intro b54 H
              refine RS.p (Pu.move rfl) rfl rfl ?_
              refine RS.joinB H 8 143 (fun b57 => .bool b57) [(0, _), (1, _), (2, _), (7, _), (8, _), (9, _), (10, _), (11, _), (12, _), (16, _)] ⟨rfl, rfl, rfl, rfl, rfl, rfl, rfl, rfl, rfl, rfl, trivial⟩ ?_ ?_
              ·intro b57 H
               refine RS.nil (hK30 _ _ ?_)
               refine T.cond rfl (fun hc58 => ?_) (fun hc58 => ?_)
               ·have H := ifT hc58 H
                obtain rfl := hd32 _ H
                refine T.xt (hJ32 _ _ v41 () HX32 ⟨rfl, rfl, rfl, rfl, rfl, rfl, rfl, rfl, rfl, trivial⟩ ⟨rfl, trivial⟩ (fun w s => s))
               ·have H := ifB hc58 H
                refine T.skip (hK29 _ _ ?_)
                refine T.region ?_
                refine RS.p (Pu.move rfl) rfl rfl ?_
                obtain ⟨g59, H⟩ := gdE H
                refine RS.p (Pu.addS rfl rfl g59) rfl rfl ?_
                refine RS.p (Pu.assign rfl) rfl rfl ?_
                refine RS.nil (hL32 _ _ (v41 + 1) () H ⟨rfl, rfl, rfl, rfl, rfl, rfl, rfl, rfl, rfl, trivial⟩ ⟨rfl, trivial⟩ (fun w s => s))
              ·intro z60 H hJ56
               refine RS.split 135 rfl (fun hc55 => ?_) (fun hc55 => ?_)
               ·have H := ifT hc55 H
                refine RS.no rfl rfl ?_
                refine RS.no rfl rfl ?_
                refine RS.no rfl rfl ?_
                refine RS.no rfl rfl ?_
                refine RS.no rfl rfl ?_
                refine RS.no rfl rfl ?_
                refine RS.no rfl rfl ?_
                refine RS.p (Pu.pickT rfl rfl) rfl rfl ?_
                obtain rfl := Option.some.inj H
                exact hJ56 _ _ ⟨rfl, rfl, rfl, rfl, rfl, rfl, rfl, rfl, rfl, rfl, rfl, trivial⟩ (fun w s => s)
               ·have H := ifB hc55 H
                refine RS.p (Pu.move rfl) rfl rfl ?_
                refine RS.p (Pu.move rfl) rfl rfl ?_
                obtain ⟨x61, hx61, H⟩ := bindE H
                refine RS.q (Qt.call (vs := [.int .i64 a0_w, .int .i64 x51.1]) ent20 rfl fun w s => throngref10_Of_walk a0_w x51.1 w  hx61) rfl rfl ?_
                refine RS.p (Pu.move rfl) rfl rfl ?_
                refine RS.p (Pu.move rfl) rfl rfl ?_
                obtain ⟨x62, hx62, H⟩ := bindE H
                refine RS.q (Qt.call (vs := [.int .i64 a0_w, .int .i64 x25.1]) ent20 rfl fun w s => throngref10_Of_walk a0_w x25.1 w  hx62) rfl rfl ?_
                refine RS.p (Pu.bin rfl rfl rfl) rfl rfl ?_
                refine RS.p (Pu.pickF rfl rfl) rfl rfl ?_
                obtain rfl := Option.some.inj H
                exact hJ56 _ _ ⟨rfl, rfl, rfl, rfl, rfl, rfl, rfl, rfl, rfl, rfl, rfl, trivial⟩ (fun w s => s)
             ·intro z63 H hJ53
              refine RS.split 126 rfl (fun hc52 => ?_) (fun hc52 => ?_)
              ·have H := ifT hc52 H
               refine RS.no rfl rfl ?_
               refine RS.no rfl rfl ?_
               refine RS.no rfl rfl ?_
               refine RS.no rfl rfl ?_
               refine RS.no rfl rfl ?_
               refine RS.no rfl rfl ?_
               refine RS.no rfl rfl ?_
               refine RS.p (Pu.pickT rfl rfl) rfl rfl ?_
               obtain rfl := Option.some.inj H
               exact hJ53 _ _ ⟨rfl, rfl, rfl, rfl, rfl, rfl, rfl, rfl, rfl, rfl, rfl, rfl, trivial⟩ (fun w s => s)
              ·have H := ifB hc52 H
               refine RS.p (Pu.move rfl) rfl rfl ?_
               refine RS.p (Pu.move rfl) rfl rfl ?_
               obtain ⟨x64, hx64, H⟩ := bindE H
               refine RS.q (Qt.call (vs := [.int .i64 a0_w, .int .i64 (v15 + (v41 * v10))]) ent20 rfl fun w s => throngref10_Of_walk a0_w (v15 + (v41 * v10)) w  hx64) rfl rfl ?_
               refine RS.p (Pu.move rfl) rfl rfl ?_
               refine RS.p (Pu.move rfl) rfl rfl ?_
               obtain ⟨x65, hx65, H⟩ := bindE H
               refine RS.q (Qt.call (vs := [.int .i64 a0_w, .int .i64 v15]) ent20 rfl fun w s => throngref10_Of_walk a0_w v15 w  hx65) rfl rfl ?_
               refine RS.p (Pu.bin rfl rfl rfl) rfl rfl ?_
               refine RS.p (Pu.pickF rfl rfl) rfl rfl ?_
               obtain rfl := Option.some.inj H
               exact hJ53 _ _ ⟨rfl, rfl, rfl, rfl, rfl, rfl, rfl, rfl, rfl, rfl, rfl, rfl, trivial⟩ (fun w s => s)
           ·intro hJ47
            refine RD.splitP 103 rfl (fun hc46 => ?_) (fun hc46 => ?_)
            ·refine RD.no (fun _ _ => trivial) rfl rfl rfl (.inl rfl) ?_
             refine RD.no (fun _ _ => trivial) rfl rfl rfl (.inl rfl) ?_
             refine RD.no (fun _ _ => trivial) rfl rfl rfl (.inl rfl) ?_
             refine RD.no (fun _ _ => trivial) rfl rfl rfl (.inl rfl) ?_
             refine RD.no (fun _ _ => trivial) rfl rfl rfl (.inl rfl) ?_
             refine RD.no (fun _ _ => trivial) rfl rfl rfl (.inl rfl) ?_
             refine RD.no (fun _ _ => trivial) rfl rfl rfl (.inl rfl) ?_
             refine RD.no (fun _ _ => trivial) rfl rfl rfl (.inl rfl) ?_
             refine RD.no (fun _ _ => trivial) rfl rfl rfl (.inl rfl) ?_
             refine RD.no (fun _ _ => trivial) rfl rfl rfl (.inl rfl) ?_
             refine RD.p (fun _ _ => trivial) rfl (Pu.pickT rfl rfl) rfl rfl ?_
             exact hJ47 _ ⟨dOrT hc46, rfl, rfl, rfl, rfl, rfl, rfl, rfl, rfl, rfl, rfl, rfl, trivial⟩
            ·refine RD.p (fun _ _ => trivial) rfl (Pu.move rfl) rfl rfl ?_
             refine RD.p (fun _ _ => trivial) rfl (Pu.move rfl) rfl rfl ?_
             refine RD.joinV 8 113 (.bool (decide ((v6 = 1) ∧ (¬ ((v15 + (v41 * v10)) / a0_w) = (v15 / a0_w))))) [(0, _), (1, _), (2, _), (7, _), (8, _), (9, _), (10, _), (11, _), (12, _), (16, _), (17, _), (98, _), (99, _), (100, _), (101, _), (102, _), (103, _), (104, _)] ⟨rfl, rfl, rfl, rfl, rfl, rfl, rfl, rfl, rfl, rfl, rfl, rfl, rfl, rfl, rfl, rfl, rfl, rfl, trivial⟩ ?_ ?_
             ·refine RD.p (fun _ _ => trivial) rfl (Pu.pickF rfl rfl) rfl rfl ?_
              exact hJ47 _ ⟨dOrF hc46, rfl, rfl, rfl, rfl, rfl, rfl, rfl, rfl, rfl, rfl, rfl, trivial⟩
             ·intro hJ67
              refine RD.splitP 105 rfl (fun hc66 => ?_) (fun hc66 => ?_)
              ·refine RD.p (fun _ _ => trivial) rfl (Pu.move rfl) rfl rfl ?_
               refine RD.p (fun _ _ => trivial) rfl (Pu.move rfl) rfl rfl ?_
               refine RD.p (fun _ _ => trivial) rfl (Pu.quoN rfl rfl ((g48 hc46) hc66)) rfl rfl ?_
               refine RD.p (fun _ _ => trivial) rfl (Pu.move rfl) rfl rfl ?_
               refine RD.p (fun _ _ => trivial) rfl (Pu.move rfl) rfl rfl ?_
               refine RD.p (fun _ _ => trivial) rfl (Pu.quoN rfl rfl ((g49 hc46) hc66)) rfl rfl ?_
               refine RD.p (fun _ _ => trivial) rfl (Pu.bin rfl rfl rfl) rfl rfl ?_
               refine RD.p (fun _ _ => trivial) rfl (Pu.pickT rfl rfl) rfl rfl ?_
               exact hJ67 _ ⟨dAndT hc66, rfl, rfl, rfl, rfl, rfl, rfl, rfl, rfl, rfl, rfl, rfl, rfl, rfl, rfl, rfl, rfl, rfl, rfl, trivial⟩
              ·refine RD.no (fun _ _ => trivial) rfl rfl rfl (.inl rfl) ?_
               refine RD.no (fun _ _ => trivial) rfl rfl rfl (.inl rfl) ?_
               refine RD.no (fun _ _ => trivial) rfl rfl rfl (.inl rfl) ?_
               refine RD.no (fun _ _ => trivial) rfl rfl rfl (.inl rfl) ?_
               refine RD.no (fun _ _ => trivial) rfl rfl rfl (.inl rfl) ?_
               refine RD.no (fun _ _ => trivial) rfl rfl rfl (.inl rfl) ?_
               refine RD.no (fun _ _ => trivial) rfl rfl rfl (.inl rfl) ?_
               refine RD.p (fun _ _ => trivial) rfl (Pu.pickF rfl rfl) rfl rfl ?_
               exact hJ67 _ ⟨dAndF hc66, rfl, rfl, rfl, rfl, rfl, rfl, rfl, rfl, rfl, rfl, rfl, rfl, rfl, rfl, rfl, rfl, rfl, rfl, trivial⟩
         ·intro z31 H HX31 hJ31
          refine T.condP rfl (fun hc68 => ?_) (fun hc68 => ?_)
          ·have H := ifT hc68 H
           refine T.seq fun K31 hK31 => ?_
           refine T.region ?_
           refine RS.p (Pu.move rfl) rfl rfl ?_
           refine RS.p (Pu.move rfl) rfl rfl ?_
           refine RS.p (Pu.move rfl) rfl rfl ?_
           refine RS.p (Pu.move rfl) rfl rfl ?_
           refine RS.p (Pu.move rfl) rfl rfl ?_
           obtain ⟨g69, H⟩ := gdE H
           refine RS.p (Pu.subS rfl rfl g69) rfl rfl ?_
           refine RS.p (Pu.move rfl) rfl rfl ?_
           obtain ⟨x70, hx70, H⟩ := bindE H
           refine RS.q (Qt.call (vs := [.int .i64 a0_w, .int .i64 a1_h, .slice p0 a2_free.length c0, .int .i64 (v15 - v10), .bool (decide (v6 = 1))]) ent19 rfl fun w s => throngref10_pair_walk a0_w a1_h a2_free (v15 - v10) (decide (v6 = 1)) w ((Rd.base h0) w s) hx70) rfl rfl ?_
           refine RS.p (Pu.move rfl) rfl rfl ?_
           refine RS.p (Pu.extract rfl rfl) rfl rfl ?_
           refine RS.p (Pu.extract rfl rfl) rfl rfl ?_
           refine RS.p (Pu.assign rfl) rfl rfl ?_
           refine RS.p (Pu.assign rfl) rfl rfl ?_
           refine RS.nil (hK31 _ _ (T.conseq (fr' := [(0, _), (1, _), (2, _), (7, _), (8, _), (9, _), (10, _), (11, _), (12, _), (14, _), (15, _)]) ?_ ⟨rfl, rfl, rfl, rfl, rfl, rfl, rfl, rfl, rfl, rfl, rfl, trivial⟩ (fun _ s => s)))
           refine T.seq fun K32 hK32 => ?_
           refine T.region ?_
           refine RS.p (Pu.move rfl) rfl rfl ?_
           refine RS.p (Pu.move rfl) rfl rfl ?_
           refine RS.joinB H 10 83 (fun b73 => .bool b73) [(0, _), (1, _), (2, _), (7, _), (8, _), (9, _), (10, _), (11, _), (12, _), (14, _)] ⟨rfl, rfl, rfl, rfl, rfl, rfl, rfl, rfl, rfl, rfl, trivial⟩ ?_ ?_
           ·intro b73 H
            refine RS.p (Pu.move rfl) rfl rfl ?_
            refine RS.joinB H 8 92 (fun b76 => .bool b76) [(0, _), (1, _), (2, _), (7, _), (8, _), (9, _), (10, _), (11, _), (12, _)] ⟨rfl, rfl, rfl, rfl, rfl, rfl, rfl, rfl, rfl, trivial⟩ ?_ ?_
            ·intro b76 H
             refine RS.nil (hK32 _ _ ?_)
             refine T.cond rfl (fun hc77 => ?_) (fun hc77 => ?_)
             ·have H := ifT hc77 H
              obtain rfl := Option.some.inj H
              have H := HX31
              obtain rfl := Option.some.inj H
              refine T.xt (hJ21 _ _ l16 q17 HX21 ⟨rfl, rfl, rfl, rfl, rfl, rfl, rfl, trivial⟩ ⟨rfl, trivial⟩ (fun w s => (s.deadRow).pick [1, 0] (by decide) rfl))
             ·have H := ifB hc77 H
              obtain rfl := Option.some.inj H
              refine T.skip (hJ31 _ _ () () HX31 ⟨rfl, rfl, rfl, rfl, rfl, rfl, rfl, rfl, rfl, trivial⟩ trivial (fun w s => s))
            ·intro z78 H hJ75
             refine RS.split 84 rfl (fun hc74 => ?_) (fun hc74 => ?_)
             ·have H := ifT hc74 H
              refine RS.p (Pu.move rfl) rfl rfl ?_
              refine RS.p (Pu.move rfl) rfl rfl ?_
              obtain ⟨x79, hx79, H⟩ := bindE H
              refine RS.q (Qt.call (vs := [.int .i64 a0_w, .int .i64 x70.1]) ent20 rfl fun w s => throngref10_Of_walk a0_w x70.1 w  hx79) rfl rfl ?_
              refine RS.p (Pu.move rfl) rfl rfl ?_
              refine RS.p (Pu.move rfl) rfl rfl ?_
              obtain ⟨x80, hx80, H⟩ := bindE H
              refine RS.q (Qt.call (vs := [.int .i64 a0_w, .int .i64 x25.1]) ent20 rfl fun w s => throngref10_Of_walk a0_w x25.1 w  hx80) rfl rfl ?_
              refine RS.p (Pu.bin rfl rfl rfl) rfl rfl ?_
              refine RS.p (Pu.pickT rfl rfl) rfl rfl ?_
              obtain rfl := Option.some.inj H
              exact hJ75 _ _ ⟨rfl, rfl, rfl, rfl, rfl, rfl, rfl, rfl, rfl, rfl, trivial⟩ (fun w s => s)
             ·have H := ifB hc74 H
              refine RS.no rfl rfl ?_
              refine RS.no rfl rfl ?_
              refine RS.no rfl rfl ?_
              refine RS.no rfl rfl ?_
              refine RS.no rfl rfl ?_
              refine RS.no rfl rfl ?_
              refine RS.no rfl rfl ?_
              refine RS.p (Pu.pickF rfl rfl) rfl rfl ?_
              obtain rfl := Option.some.inj H
              exact hJ75 _ _ ⟨rfl, rfl, rfl, rfl, rfl, rfl, rfl, rfl, rfl, rfl, trivial⟩ (fun w s => s)
           ·intro z81 H hJ72
            refine RS.split 73 rfl (fun hc71 => ?_) (fun hc71 => ?_)
            ·have H := ifT hc71 H
             refine RS.p (Pu.move rfl) rfl rfl ?_
             refine RS.p (Pu.move rfl) rfl rfl ?_
             refine RS.p (Pu.move rfl) rfl rfl ?_
             obtain ⟨g82, H⟩ := gdE H
             refine RS.p (Pu.subS rfl rfl g82) rfl rfl ?_
             obtain ⟨x83, hx83, H⟩ := bindE H
             refine RS.q (Qt.call (vs := [.int .i64 a0_w, .int .i64 (v15 - v10)]) ent20 rfl fun w s => throngref10_Of_walk a0_w (v15 - v10) w  hx83) rfl rfl ?_
             refine RS.p (Pu.move rfl) rfl rfl ?_
             refine RS.p (Pu.move rfl) rfl rfl ?_
             obtain ⟨x84, hx84, H⟩ := bindE H
             refine RS.q (Qt.call (vs := [.int .i64 a0_w, .int .i64 v15]) ent20 rfl fun w s => throngref10_Of_walk a0_w v15 w  hx84) rfl rfl ?_
             refine RS.p (Pu.bin rfl rfl rfl) rfl rfl ?_
             refine RS.p (Pu.pickT rfl rfl) rfl rfl ?_
             obtain rfl := Option.some.inj H
             exact hJ72 _ _ ⟨rfl, rfl, rfl, rfl, rfl, rfl, rfl, rfl, rfl, rfl, rfl, trivial⟩ (fun w s => s)
            ·have H := ifB hc71 H
             refine RS.no rfl rfl ?_
             refine RS.no rfl rfl ?_
             refine RS.no rfl rfl ?_
             refine RS.no rfl rfl ?_
             refine RS.no rfl rfl ?_
             refine RS.no rfl rfl ?_
             refine RS.no rfl rfl ?_
             refine RS.no rfl rfl ?_
             refine RS.no rfl rfl ?_
             refine RS.p (Pu.pickF rfl rfl) rfl rfl ?_
             obtain rfl := Option.some.inj H
             exact hJ72 _ _ ⟨rfl, rfl, rfl, rfl, rfl, rfl, rfl, rfl, rfl, rfl, rfl, trivial⟩ (fun w s => s)
          ·have H := ifF hc68 H
           obtain rfl := Option.some.inj H
           refine T.skip (hJ31 _ _ () () HX31 ⟨rfl, rfl, rfl, rfl, rfl, rfl, rfl, rfl, rfl, trivial⟩ trivial (fun w s => s))
        ·intro hJ29
         refine RS.splitP 51 rfl (fun hc28 => ?_) (fun hc28 => ?_)
         ·refine RS.p (Pu.move rfl) rfl rfl ?_
          refine RS.p (Pu.notP rfl) rfl rfl ?_
          refine RS.p (Pu.move rfl) rfl rfl ?_
          refine RS.joinV 5 59 (.bool (decide ((¬ (v6 = 1)) ∨ (0 < (v15 % a0_w))))) [(0, _), (1, _), (2, _), (7, _), (8, _), (9, _), (10, _), (11, _), (12, _), (47, _), (48, _), (49, _), (50, _), (51, _), (52, _), (53, _)] ⟨rfl, rfl, rfl, rfl, rfl, rfl, rfl, rfl, rfl, rfl, rfl, rfl, rfl, rfl, rfl, rfl, trivial⟩ ?_ ?_
          ·refine RS.p (Pu.pickT rfl rfl) rfl rfl ?_
           exact hJ29 _ _ ⟨dAndT hc28, rfl, rfl, rfl, rfl, rfl, rfl, rfl, rfl, rfl, trivial⟩ (fun w s => s)
          ·intro hJ86
           refine RS.splitP 54 rfl (fun hc85 => ?_) (fun hc85 => ?_)
           ·refine RS.no rfl rfl ?_
            refine RS.no rfl rfl ?_
            refine RS.no rfl rfl ?_
            refine RS.no rfl rfl ?_
            refine RS.p (Pu.pickT rfl rfl) rfl rfl ?_
            exact hJ86 _ _ ⟨dOrT hc85, rfl, rfl, rfl, rfl, rfl, rfl, rfl, rfl, rfl, rfl, rfl, rfl, rfl, rfl, rfl, rfl, trivial⟩ (fun w s => s)
           ·refine RS.p (Pu.move rfl) rfl rfl ?_
            refine RS.p (Pu.move rfl) rfl rfl ?_
            refine RS.p (Pu.remN rfl rfl (and3 ((g30 hc28) hc85))) rfl rfl ?_
            refine RS.p (Pu.bin rfl rfl rfl) rfl rfl ?_
            refine RS.p (Pu.pickF rfl rfl) rfl rfl ?_
            exact hJ86 _ _ ⟨dOrF hc85, rfl, rfl, rfl, rfl, rfl, rfl, rfl, rfl, rfl, rfl, rfl, rfl, rfl, rfl, rfl, rfl, trivial⟩ (fun w s => s)
         ·refine RS.no rfl rfl ?_
          refine RS.no rfl rfl ?_
          refine RS.no rfl rfl ?_
          refine RS.no rfl rfl ?_
          refine RS.no rfl rfl ?_
          refine RS.no rfl rfl ?_
          refine RS.no rfl rfl ?_
          refine RS.no rfl rfl ?_
          refine RS.p (Pu.pickF rfl rfl) rfl rfl ?_
          exact hJ29 _ _ ⟨dAndF hc28, rfl, rfl, rfl, rfl, rfl, rfl, rfl, rfl, rfl, trivial⟩ (fun w s => s)
     ·have H := ifF hc20 H
      obtain rfl := hd11 _ H
      refine T.xt (hJ11 _ _ l16 q17 HX11 ⟨rfl, rfl, rfl, rfl, trivial⟩ ⟨rfl, trivial⟩ (fun w s => s))
   ·intro z9 H HX9 hJ9
    refine T.condP rfl (fun hc87 => ?_) (fun hc87 => ?_)
    ·have H := ifT hc87 H
     refine T.conseq (fr' := [(0, _), (1, _), (2, _), (7, _), (8, _), (9, _)]) ?_ ⟨rfl, rfl, rfl, rfl, rfl, rfl, trivial⟩ (fun _ s => s)
     refine T.region ?_
     refine RS.p (Pu.assign rfl) rfl rfl ?_
     obtain rfl := Option.some.inj H
     refine RS.nil (hJ9 _ _ 1 () HX9 ⟨rfl, rfl, rfl, rfl, rfl, rfl, trivial⟩ ⟨rfl, trivial⟩ (fun w s => s))
    ·have H := ifF hc87 H
     obtain rfl := Option.some.inj H
     refine T.skip (hJ9 _ _ a0_w () HX9 ⟨rfl, rfl, rfl, rfl, rfl, rfl, trivial⟩ ⟨rfl, trivial⟩ (fun w s => s))
  ·have H := ifF hc8 H
   obtain rfl := hd1 _ H
   refine T.xt (hJ1 _ _ l4 q5 HX1 trivial ⟨rfl, trivial⟩ (fun w s => s))
theorem sector_Parts_walk (a0_w : Int) (a1_h : Int) (a2_free : List Bool) (w : World) {v0 : Value} (h0 : R (hpOf w) a2_free [v0]) {r : List Int × Int} (H : sector_Parts a0_w a1_h a2_free = some r) : Calls Try.prog 18 #[.int .i64 a0_w, .int .i64 a1_h, v0] w fun e w' => ∃ q1 : (Option Nat × Nat), e = .returned (.tuple #[rowV q1 r.1.length, .int .i64 r.2]) ∧ Sat w [row nilH 3 (rowV q1 r.1.length) r.1] w' := by
 have hm0 := R_max h0
 obtain ⟨p0, c0, rfl⟩ := R_form h0
 unfold sector_Parts at H
 refine T.enter (args := [_, _, _]) (S := Sat w []) Try.func18 rfl rfl (Sat.start w) ?_
 refine T.seq fun K1 hK1 => ?_
 refine T.region ?_
 refine RS.p (Pu.assign rfl) rfl rfl ?_
 refine RS.p (Pu.assign rfl) rfl rfl ?_
 refine RS.nil (hK1 _ _ ?_)
 refine T.seq fun K2 hK2 => ?_
 refine T.seq fun K3 hK3 => ?_
 refine T.region ?_
 refine RS.p (Pu.move rfl) rfl rfl ?_
 refine RS.p (Pu.move rfl) rfl rfl ?_
 obtain ⟨x1, hx1, H⟩ := bindE H
 refine RS.q (Qt.call (vs := [.int .i64 a0_w, .int .i64 a1_h]) ent22 rfl fun w s => sector_May_walk a0_w a1_h w  hx1) rfl rfl ?_
 refine RS.p (Pu.not rfl) rfl rfl ?_
 refine RS.p (Pu.move rfl) rfl rfl ?_
 obtain ⟨g4, H⟩ := gdE H
 refine RS.joinV 7 21 (.bool (decide (((!x1) = true) ∨ (¬ (a2_free.length : Int) = (a0_w * a1_h))))) [(0, _), (1, _), (2, _)] ⟨rfl, rfl, rfl, trivial⟩ ?_ ?_
 ·refine RS.nil (hK3 _ _ ?_)
  refine T.condP rfl (fun hc5 => ?_) (fun hc5 => ?_)
  ·have H := ifT hc5 H
   refine T.conseq (fr' := []) ?_ trivial (fun _ s => s)
   refine T.seq fun K4 hK4 => ?_
   refine T.region ?_
   refine RS.p (Pu.assign rfl) rfl rfl ?_
   refine RS.p (Pu.assign rfl) rfl rfl ?_
   refine RS.nil (hK4 _ _ ?_)
   obtain rfl := Option.some.inj H
   refine T.rt (Cont.ret2 rfl rfl rfl fun w' s => ?_)
   exact ⟨(none, 0), rfl, (s.nilRow (α := Int) 3).pick [0] (by decide) rfl⟩
  ·have H := ifF hc5 H
   refine T.skip (hK2 _ _ ?_)
   refine T.seq fun K5 hK5 => ?_
   refine T.region ?_
   refine RS.solid (Sd.litS (cs := [_]) sl23 zr3 rfl rfl rfl rfl rfl) rfl rfl fun b6 => ?_
   refine RS.weakS (fun w s => s.litRow (α := Int) (n := 1) 0 [(-1)] rfl (by decide) rfl ⟨[_], _, rfl, rfl, rfl⟩) ?_
   refine RS.p (Pu.move rfl) rfl rfl ?_
   refine RS.p (Pu.move rfl) rfl rfl ?_
   obtain ⟨g7, H⟩ := gdE H
   refine RS.p (Pu.mulS rfl rfl g7) rfl rfl ?_
   obtain ⟨x8, hx8, H⟩ := bindE H
   refine RS.solid (Sd.callN (vs := [rowV (some b6, 1) 1, .int .i64 (a0_w * a1_h)]) ent25 rfl (fun w s => slices_Repeat_walk [(-1)] (a0_w * a1_h) w ((Rd.ofRowN 0 rfl) w s) hx8)) rfl rfl fun q9 => ?_
   refine RS.p (Pu.assign rfl) rfl rfl ?_
   refine RS.nil (hK5 _ _ (T.conseq (fr' := [(0, _), (1, _), (2, _), (8, _)]) ?_ ⟨rfl, rfl, rfl, rfl, trivial⟩ (fun _ s => s)))
   refine T.seq fun K6 hK6 => ?_
   refine T.seq fun K7 hK7 => ?_
   refine T.region ?_
   refine RS.p (Pu.move rfl) rfl rfl ?_
   obtain ⟨x10, hx10, H⟩ := bindE H
   refine RS.q (Qt.call (vs := [.int .i64 a0_w]) ent26 rfl fun w s => sector_across_walk a0_w w  hx10) rfl rfl ?_
   refine RS.p (Pu.move rfl) rfl rfl ?_
   obtain ⟨x11, hx11, H⟩ := bindE H
   refine RS.q (Qt.call (vs := [.int .i64 a1_h]) ent26 rfl fun w s => sector_across_walk a1_h w  hx11) rfl rfl ?_
   obtain ⟨g12, H⟩ := gdE H
   refine RS.p (Pu.mulS rfl rfl g12) rfl rfl ?_
   refine RS.p (Pu.move rfl) rfl rfl ?_
   refine RS.nil (hK7 _ _ (T.conseq (fr' := [(0, _), (1, _), (2, _), (8, _), (31, _), (32, _)]) ?_ ⟨rfl, rfl, rfl, rfl, rfl, rfl, trivial⟩ (fun _ s => s)))
   refine T.joinE (σ := List Int) (γ := Unit) H (fun s => s) [(8, _)] ⟨rfl, trivial⟩ (fun v14 _ => []) (fun v14 _ => Sat w [row nilH 3 (rowV (some b6, 1) 1) [(-1)], row nilH 3 (rowV q9 x8.length) v14]) ?_ ?_
   ·rintro v14 ⟨⟩ H
    try dsimp only [Ex.then] at H
    refine Cont.conseq (fr' := [(8, _)]) ?_ ⟨rfl, trivial⟩ (fun _ s => s)
    refine id (hK6 _ _ ?_)
    refine T.seq fun K8 hK8 => ?_
    refine T.region ?_
    refine RS.p (Pu.move rfl) rfl rfl ?_
    refine RS.p (Pu.assign rfl) rfl rfl ?_
    refine RS.p (Pu.assign rfl) rfl rfl ?_
    refine RS.nil (hK8 _ _ ?_)
    obtain rfl := Option.some.inj H
    refine T.rt (Cont.ret2 rfl rfl rfl fun w' s => ?_)
    exact ⟨q9, (by simp only [(s.row_fits (q := q9) (m := x8.length) (k := 1) rfl).1]; try rfl), (Sat.relen (q := q9) (m := x8.length) 1 s rfl).pick [1] (by decide) rfl⟩
   ·intro z13 hz13 HX13 hJ13
    refine T.block ?_
    refine T.loopA (γ := Unit) hz13 [(0, _), (1, _), (2, _), (8, _), (31, _)] (fun (v15, l16) _ => [(32, .int .i64 v15)]) (fun (v15, l16) _ => Sat w [row nilH 3 (rowV (some b6, 1) 1) [(-1)], row nilH 3 (rowV q9 x8.length) l16]) () ⟨rfl, rfl, rfl, rfl, rfl, trivial⟩ ⟨rfl, trivial⟩ (fun w s => s) ?_
    rintro ⟨v15, l16⟩ ⟨⟩ y17 H hd13 KL13 hL13
    try dsimp only [Ex.then] at H
    refine T.conseq (fr' := [(32, _), (0, _), (1, _), (2, _), (8, _), (31, _)]) ?_ ⟨rfl, rfl, rfl, rfl, rfl, rfl, trivial⟩ (fun _ s => s)
    refine T.seq fun K9 hK9 => ?_
    refine T.region ?_
    refine RS.p (Pu.bin rfl rfl rfl) rfl rfl ?_
    refine RS.nil (hK9 _ _ ?_)
    refine T.seq fun K10 hK10 => ?_
    refine T.condP rfl (fun hc18 => ?_) (fun hc18 => ?_)
    ·have H := ifT hc18 H
     refine T.skip (hK10 _ _ ?_)
     refine T.seq fun K11 hK11 => ?_
     refine T.block ?_
     refine T.seq fun K12 hK12 => ?_
     refine T.region ?_
     refine RS.p (Pu.move rfl) rfl rfl ?_
     refine RS.p (Pu.assign rfl) rfl rfl ?_
     refine RS.nil (hK12 _ _ ?_)
     refine T.region ?_
     refine RS.p (Pu.move rfl) rfl rfl ?_
     refine RS.p (Pu.move rfl) rfl rfl ?_
     refine RS.p (Pu.move rfl) rfl rfl ?_
     refine RS.p (Pu.move rfl) rfl rfl ?_
     refine RS.p (Pu.move rfl) rfl rfl ?_
     obtain ⟨x19, hx19, H⟩ := bindE H
     refine RS.know (fun w s => (s.row_fits (q := q9) (m := x8.length) (k := 1) rfl)) fun hf20 => ?_
     refine RS.solid (Sd.callF0 (vs := [.int .i64 a0_w, .int .i64 a1_h, .slice p0 a2_free.length c0, rowV q9 x8.length, .int .i64 v15]) (C' := row nilH 3 (rowV q9 x8.length) x19) (v := .tuple #[]) 1 ent27 rfl rfl (fun w s => sector_redo_walk a0_w a1_h a2_free l16 v15 hf20.1 h0 hx19 w s)) rfl rfl fun _ => ?_
     refine RS.nil (hK11 _ _ (T.conseq (fr' := [(0, _), (1, _), (2, _), (8, _), (31, _), (32, _)]) ?_ ⟨rfl, rfl, rfl, rfl, rfl, rfl, trivial⟩ (fun _ s => s)))
     refine T.region ?_
     obtain ⟨g21, H⟩ := gdE H
     refine RS.p (Pu.addS rfl rfl g21) rfl rfl ?_
     refine RS.p (Pu.move rfl) rfl rfl ?_
     refine RS.nil (hL13 _ _ ((v15 + 1), x19) () H ⟨rfl, rfl, rfl, rfl, rfl, trivial⟩ ⟨rfl, trivial⟩ (fun w s => s))
    ·have H := ifF hc18 H
     obtain rfl := hd13 _ H
     refine T.xt (hJ13 _ _ l16 () HX13 ⟨rfl, trivial⟩ trivial (fun w s => s))
 ·intro hJ3
  refine RS.split 14 rfl (fun hc2 => ?_) (fun hc2 => ?_)
  ·refine RS.no rfl rfl ?_
   refine RS.no rfl rfl ?_
   refine RS.no rfl rfl ?_
   refine RS.no rfl rfl ?_
   refine RS.no rfl rfl ?_
   refine RS.no rfl rfl ?_
   refine RS.p (Pu.pickT rfl rfl) rfl rfl ?_
   exact hJ3 _ _ ⟨dOrT hc2, rfl, rfl, rfl, trivial⟩ (fun w s => s)
  ·refine RS.p (Pu.move rfl) rfl rfl ?_
   refine RS.p (Pu.lenSl sl22 rfl) rfl rfl ?_
   refine RS.p (Pu.move rfl) rfl rfl ?_
   refine RS.p (Pu.move rfl) rfl rfl ?_
   refine RS.p (Pu.mulS rfl rfl (g4 (bne_of hc2))) rfl rfl ?_
   refine RS.p (Pu.bin rfl rfl rfl) rfl rfl ?_
   refine RS.p (Pu.pickF rfl rfl) rfl rfl ?_
   exact hJ3 _ _ ⟨dOrF (bne_of hc2), rfl, rfl, rfl, trivial⟩ (fun w s => s)
theorem portal_border_walk (a0_free : List Bool) (a1_a : Int) (a2_over : Int) (a3_step : Int) (a4_n : Int) (w : World) {v0 : Value} (h0 : R (hpOf w) a0_free [v0]) {r : List Prt} (H : portal_border a0_free a1_a a2_over a3_step a4_n = some r) : Calls Try.prog 31 #[v0, .int .i64 a1_a, .int .i64 a2_over, .int .i64 a3_step, .int .i64 a4_n] w fun e w' => ∃ q1 : (Option Nat × Nat), e = .returned (rowV q1 r.length) ∧ Sat w [row nilH 40 (rowV q1 r.length) r] w' := by
 have hm0 := R_max h0
 obtain ⟨p0, c0, rfl⟩ := R_form h0
 unfold portal_border at H
 refine T.enter (args := [_, _, _, _, _]) (S := Sat w []) Try.func31 rfl rfl (Sat.start w) ?_
 refine T.seq fun K1 hK1 => ?_
 refine T.region ?_
 refine RS.p (Pu.assign rfl) rfl rfl ?_
 refine RS.nil (hK1 _ _ ?_)
 refine T.seq fun K2 hK2 => ?_
 refine T.region ?_
 refine RS.p (Pu.assign rfl) rfl rfl ?_
 refine RS.nil (hK2 _ _ ?_)
 refine T.seq fun K3 hK3 => ?_
 refine T.seq fun K4 hK4 => ?_
 refine T.region ?_
 refine RS.p (Pu.move rfl) rfl rfl ?_
 obtain ⟨g1, H⟩ := gdE H
 refine RS.p (Pu.addS rfl rfl g1) rfl rfl ?_
 refine RS.p (Pu.move rfl) rfl rfl ?_
 refine RS.nil (hK4 _ _ ?_)
 refine T.joinE (σ := List Prt) (γ := (Option Nat × Nat)) H (fun s => s) [] trivial (fun v3 q4 => [(10, rowV q4 v3.length)]) (fun v3 q4 => Sat w [row nilH 40 (rowV q4 v3.length) v3]) ?_ ?_
 ·rintro v3 q4 H
  try dsimp only [Ex.then] at H
  refine Cont.conseq (fr' := [(10, _)]) ?_ ⟨rfl, trivial⟩ (fun _ s => s)
  refine id (hK3 _ _ ?_)
  refine T.seq fun K5 hK5 => ?_
  refine T.region ?_
  refine RS.p (Pu.move rfl) rfl rfl ?_
  refine RS.p (Pu.assign rfl) rfl rfl ?_
  refine RS.nil (hK5 _ _ ?_)
  obtain rfl := Option.some.inj H
  refine T.rt (Cont.ret1 rfl rfl fun w' s => ?_)
  exact ⟨q4, rfl, s.pick [0] (by decide) rfl⟩
 ·intro z2 hz2 HX2 hJ2
  refine T.block ?_
  refine T.loopA (γ := (Option Nat × Nat)) hz2 [(0, _), (1, _), (2, _), (3, _), (4, _), (16, _)] (fun (l5, v7, v8) q6 => [(10, rowV q6 l5.length), (11, .int .i64 v7), (17, .int .i64 v8)]) (fun (l5, v7, v8) q6 => Sat w [row nilH 40 (rowV q6 l5.length) l5]) (none, 0) ⟨rfl, rfl, rfl, rfl, rfl, rfl, trivial⟩ ⟨rfl, rfl, rfl, trivial⟩ (fun w s => (s.nilRow (α := Prt) 40).pick [0] (by decide) rfl) ?_
  rintro ⟨l5, v7, v8⟩ q6 y9 H hd2 KL2 hL2
  try dsimp only [Ex.then] at H
  refine T.conseq (fr' := [(10, _), (11, _), (17, _), (0, _), (1, _), (2, _), (3, _), (4, _), (16, _)]) ?_ ⟨rfl, rfl, rfl, rfl, rfl, rfl, rfl, rfl, rfl, trivial⟩ (fun _ s => s)
  refine T.seq fun K6 hK6 => ?_
  refine T.region ?_
  refine RS.p (Pu.bin rfl rfl rfl) rfl rfl ?_
  refine RS.nil (hK6 _ _ ?_)
  refine T.seq fun K7 hK7 => ?_
  refine T.condP rfl (fun hc10 => ?_) (fun hc10 => ?_)
  ·have H := ifT hc10 H
   refine T.skip (hK7 _ _ ?_)
   refine T.seq fun K8 hK8 => ?_
   refine T.block ?_
   refine T.seq fun K9 hK9 => ?_
   refine T.region ?_
   refine RS.p (Pu.move rfl) rfl rfl ?_
   refine RS.p (Pu.assign rfl) rfl rfl ?_
   refine RS.nil (hK9 _ _ ?_)
   refine T.seq fun K10 hK10 => ?_
   refine T.region ?_
   refine RS.p (Pu.move rfl) rfl rfl ?_
   refine RS.p (Pu.move rfl) rfl rfl ?_
   refine RS.p (Pu.move rfl) rfl rfl ?_
   obtain ⟨g11, H⟩ := gdE H
   refine RS.p (Pu.mulS rfl rfl g11) rfl rfl ?_
   obtain ⟨g12, H⟩ := gdE H
   refine RS.p (Pu.addS rfl rfl g12) rfl rfl ?_
   refine RS.p (Pu.assign rfl) rfl rfl ?_
   refine RS.nil (hK10 _ _ (T.conseq (fr' := [(0, _), (1, _), (2, _), (3, _), (4, _), (10, _), (11, _), (12, _), (13, _), (16, _), (17, _)]) ?_ ⟨rfl, rfl, rfl, rfl, rfl, rfl, rfl, rfl, rfl, rfl, rfl, trivial⟩ (fun _ s => s)))
   refine T.seq fun K11 hK11 => ?_
   refine T.seq fun K12 hK12 => ?_
   refine T.region ?_
   refine RS.p (Pu.move rfl) rfl rfl ?_
   refine RS.p (Pu.move rfl) rfl rfl ?_
   refine RS.p (Pu.bin rfl rfl rfl) rfl rfl ?_
   refine RS.p (Pu.move rfl) rfl rfl ?_
   obtain ⟨g15, H⟩ := gdE H
   refine RS.joinV 5 33 (.bool (decide ((v8 < a4_n) ∧ ((gi a0_free (a1_a + (a3_step * v8))) = true)))) [(0, _), (1, _), (2, _), (3, _), (4, _), (10, _), (11, _), (13, _), (16, _), (17, _)] ⟨rfl, rfl, rfl, rfl, rfl, rfl, rfl, rfl, rfl, rfl, trivial⟩ ?_ ?_
   ·refine RS.p (Pu.move rfl) rfl rfl ?_
    obtain ⟨g18, H⟩ := gdE H
    obtain ⟨g19, H⟩ := gdE H
    refine RS.joinV 7 41 (.bool (decide (((v8 < a4_n) ∧ ((gi a0_free (a1_a + (a3_step * v8))) = true)) ∧ ((gi a0_free ((a1_a + (a3_step * v8)) + a2_over)) = true)))) [(0, _), (1, _), (2, _), (3, _), (4, _), (10, _), (11, _), (13, _), (16, _), (17, _)] ⟨rfl, rfl, rfl, rfl, rfl, rfl, rfl, rfl, rfl, rfl, trivial⟩ ?_ ?_
    ·refine RS.nil (hK12 _ _ ?_)
     refine T.condP rfl (fun hc20 => ?_) (fun hc20 => ?_)
     ·have H := ifT hc20 H
      refine T.seq fun K13 hK13 => ?_
      refine T.region ?_
      refine RS.p (Pu.move rfl) rfl rfl ?_
      obtain ⟨g21, H⟩ := gdE H
      refine RS.p (Pu.addS rfl rfl g21) rfl rfl ?_
      refine RS.p (Pu.assign rfl) rfl rfl ?_
      refine RS.nil (hK13 _ _ (T.conseq (fr' := [(0, _), (1, _), (2, _), (3, _), (4, _), (10, _), (11, _), (16, _), (17, _)]) ?_ ⟨rfl, rfl, rfl, rfl, rfl, rfl, rfl, rfl, rfl, trivial⟩ (fun _ s => s)))
      refine T.xt (hK8 _ _ ?_)
      refine T.region ?_
      obtain ⟨g22, H⟩ := gdE H
      refine RS.p (Pu.addS rfl rfl g22) rfl rfl ?_
      refine RS.p (Pu.move rfl) rfl rfl ?_
      refine RS.nil (hL2 _ _ (l5, (v7 + 1), (v8 + 1)) q6 H ⟨rfl, rfl, rfl, rfl, rfl, rfl, trivial⟩ ⟨rfl, rfl, rfl, trivial⟩ (fun w s => s))
     ·have H := ifF hc20 H
      refine T.skip (hK11 _ _ ?_)
      refine T.seq fun K14 hK14 => ?_
      refine T.seq fun K15 hK15 => ?_
      refine T.region ?_
      refine RS.p (Pu.move rfl) rfl rfl ?_
      refine RS.p (Pu.bin rfl rfl rfl) rfl rfl ?_
      refine RS.nil (hK15 _ _ ?_)
      refine T.condP rfl (fun hc23 => ?_) (fun hc23 => ?_)
      ·have H := ifT hc23 H
       refine T.conseq (fr' := [(0, _), (1, _), (2, _), (3, _), (4, _), (10, _), (11, _), (13, _), (16, _), (17, _)]) ?_ ⟨rfl, rfl, rfl, rfl, rfl, rfl, rfl, rfl, rfl, rfl, trivial⟩ (fun _ s => s)
       refine T.seq fun K16 hK16 => ?_
       refine T.region ?_
       refine RS.p (Pu.move rfl) rfl rfl ?_
       refine RS.p (Pu.move rfl) rfl rfl ?_
       refine RS.p (Pu.move rfl) rfl rfl ?_
       obtain ⟨g24, H⟩ := gdE H
       refine RS.p (Pu.mulS rfl rfl g24) rfl rfl ?_
       obtain ⟨g25, H⟩ := gdE H
       refine RS.p (Pu.subS rfl rfl g25) rfl rfl ?_
       refine RS.p (Pu.move rfl) rfl rfl ?_
       refine RS.p (Pu.move rfl) rfl rfl ?_
       obtain ⟨g26, H⟩ := gdE H
       refine RS.p (Pu.subS rfl rfl g26) rfl rfl ?_
       obtain ⟨g27, H⟩ := gdE H
       refine RS.p (Pu.quoN rfl rfl ⟨g27.1, g27.2, by decide⟩) rfl rfl ?_
       obtain ⟨g28, H⟩ := gdE H
       refine RS.p (Pu.mulS rfl rfl g28) rfl rfl ?_
       obtain ⟨g29, H⟩ := gdE H
       refine RS.p (Pu.addS rfl rfl g29) rfl rfl ?_
       refine RS.p (Pu.assign rfl) rfl rfl ?_
       refine RS.nil (hK16 _ _ (T.conseq (fr' := [(0, _), (1, _), (2, _), (3, _), (4, _), (10, _), (11, _), (14, _), (16, _), (17, _)]) ?_ ⟨rfl, rfl, rfl, rfl, rfl, rfl, rfl, rfl, rfl, rfl, trivial⟩ (fun _ s => s)))
       refine T.region ?_
       refine RS.p (Pu.move rfl) rfl rfl ?_
       refine RS.p (Pu.move rfl) rfl rfl ?_
       refine RS.p (Pu.move rfl) rfl rfl ?_
       refine RS.p (Pu.move rfl) rfl rfl ?_
       obtain ⟨g30, H⟩ := gdE H
       refine RS.p (Pu.addS rfl rfl g30) rfl rfl ?_
       refine RS.p (Pu.move rfl) rfl rfl ?_
       refine RS.p (Pu.build (cells := [_, _, _]) st40 rfl rfl) rfl rfl ?_
       refine RS.solid (Sd.litS (cs := [_, _, _]) sl27 zr40 rfl rfl rfl rfl rfl) rfl rfl fun b31 => ?_
       obtain ⟨g33, H⟩ := gdE H
       refine RS.solid (Sd.app1c (α := Prt) 0 1 (⟨(((a1_a + (a3_step * v8)) - (a3_step * v7)) + (a3_step * ((v7 - 1) / 2))), ((((a1_a + (a3_step * v8)) - (a3_step * v7)) + (a3_step * ((v7 - 1) / 2))) + a2_over), v7⟩ : Prt) rfl rfl (nilH_lt _) sl27 zr40 rfl rfl rfl rfl g33 (by decide)) rfl rfl fun q32 => ?_
       refine RS.p (Pu.assign rfl) rfl rfl ?_
       refine RS.nil (hK14 _ _ (T.conseq (fr' := [(0, _), (1, _), (2, _), (3, _), (4, _), (10, _), (16, _), (17, _)]) ?_ ⟨rfl, rfl, rfl, rfl, rfl, rfl, rfl, rfl, trivial⟩ (fun _ s => s)))
       refine T.region ?_
       refine RS.p (Pu.assign rfl) rfl rfl ?_
       refine RS.nil (hK8 _ _ ?_)
       refine T.region ?_
       obtain ⟨g34, H⟩ := gdE H
       refine RS.p (Pu.addS rfl rfl g34) rfl rfl ?_
       refine RS.p (Pu.move rfl) rfl rfl ?_
       refine RS.nil (hL2 _ _ ((l5 ++ [(⟨(((a1_a + (a3_step * v8)) - (a3_step * v7)) + (a3_step * ((v7 - 1) / 2))), ((((a1_a + (a3_step * v8)) - (a3_step * v7)) + (a3_step * ((v7 - 1) / 2))) + a2_over), v7⟩ : Prt)]), 0, (v8 + 1)) q32 H ⟨rfl, rfl, rfl, rfl, rfl, rfl, trivial⟩ ⟨rfl, rfl, rfl, trivial⟩ (fun w s => s.pick [0] (by decide) rfl))
      ·have H := ifF hc23 H
       refine T.skip (hK14 _ _ (T.conseq (fr' := [(0, _), (1, _), (2, _), (3, _), (4, _), (10, _), (16, _), (17, _)]) ?_ ⟨rfl, rfl, rfl, rfl, rfl, rfl, rfl, rfl, trivial⟩ (fun _ s => s)))
       refine T.region ?_
       refine RS.p (Pu.assign rfl) rfl rfl ?_
       refine RS.nil (hK8 _ _ ?_)
       refine T.region ?_
       obtain ⟨g35, H⟩ := gdE H
       refine RS.p (Pu.addS rfl rfl g35) rfl rfl ?_
       refine RS.p (Pu.move rfl) rfl rfl ?_
       refine RS.nil (hL2 _ _ (l5, 0, (v8 + 1)) q6 H ⟨rfl, rfl, rfl, rfl, rfl, rfl, trivial⟩ ⟨rfl, rfl, rfl, trivial⟩ (fun w s => s))
    ·intro hJ17
     refine RS.splitP 34 rfl (fun hc16 => ?_) (fun hc16 => ?_)
     ·refine RS.p (Pu.move rfl) rfl rfl ?_
      refine RS.p (Pu.move rfl) rfl rfl ?_
      refine RS.p (Pu.move rfl) rfl rfl ?_
      refine RS.p (Pu.addS rfl rfl (g18 hc16)) rfl rfl ?_
      obtain ⟨bl36, ol37, rfl⟩ := R_ptr h0 (ne_of_pos (pos_of (g19 hc16)))
      refine RS.p (Pu.indexSl sl22 rfl rfl (g19 hc16)) rfl rfl ?_
      refine RS.q (Qt.ld0 (α := Bool) (Rd.base h0) ty4 rfl rfl (g19 hc16) (by rintro _ _ rfl; rfl)) rfl rfl ?_
      refine RS.p (Pu.pickT rfl rfl) rfl rfl ?_
      exact hJ17 _ _ ⟨dAndTB hc16, rfl, rfl, rfl, rfl, rfl, rfl, rfl, rfl, rfl, rfl, trivial⟩ (fun w s => s)
     ·refine RS.no rfl rfl ?_
      refine RS.no rfl rfl ?_
      refine RS.no rfl rfl ?_
      refine RS.no rfl rfl ?_
      refine RS.no rfl rfl ?_
      refine RS.no rfl rfl ?_
      refine RS.p (Pu.pickF rfl rfl) rfl rfl ?_
      exact hJ17 _ _ ⟨dAndF hc16, rfl, rfl, rfl, rfl, rfl, rfl, rfl, rfl, rfl, rfl, trivial⟩ (fun w s => s)
   ·intro hJ14
    refine RS.splitP 28 rfl (fun hc13 => ?_) (fun hc13 => ?_)
    ·refine RS.p (Pu.move rfl) rfl rfl ?_
     refine RS.p (Pu.move rfl) rfl rfl ?_
     obtain ⟨bl38, ol39, rfl⟩ := R_ptr h0 (ne_of_pos (pos_of (g15 hc13)))
     refine RS.p (Pu.indexSl sl22 rfl rfl (g15 hc13)) rfl rfl ?_
     refine RS.q (Qt.ld0 (α := Bool) (Rd.base h0) ty4 rfl rfl (g15 hc13) (by rintro _ _ rfl; rfl)) rfl rfl ?_
     refine RS.p (Pu.pickT rfl rfl) rfl rfl ?_
     exact hJ14 _ _ ⟨dAndTB hc13, rfl, rfl, rfl, rfl, rfl, rfl, rfl, rfl, rfl, rfl, trivial⟩ (fun w s => s)
    ·refine RS.no rfl rfl ?_
     refine RS.no rfl rfl ?_
     refine RS.no rfl rfl ?_
     refine RS.no rfl rfl ?_
     refine RS.p (Pu.pickF rfl rfl) rfl rfl ?_
     exact hJ14 _ _ ⟨dAndF hc13, rfl, rfl, rfl, rfl, rfl, rfl, rfl, rfl, rfl, rfl, trivial⟩ (fun w s => s)
  ·have H := ifF hc10 H
   obtain rfl := hd2 _ H
   refine T.xt (hJ2 _ _ l5 q6 HX2 trivial ⟨rfl, trivial⟩ (fun w s => s))
theorem portal_All_walk (a0_w : Int) (a1_h : Int) (a2_free : List Bool) (w : World) {v0 : Value} (h0 : R (hpOf w) a2_free [v0]) {r : List Prt} (H : portal_All a0_w a1_h a2_free = some r) : Calls Try.prog 23 #[.int .i64 a0_w, .int .i64 a1_h, v0] w fun e w' => ∃ q1 : (Option Nat × Nat), e = .returned (rowV q1 r.length) ∧ Sat w [row nilH 40 (rowV q1 r.length) r] w' := by
 have hm0 := R_max h0
 obtain ⟨p0, c0, rfl⟩ := R_form h0
 unfold portal_All at H
 refine T.enter (args := [_, _, _]) (S := Sat w []) Try.func23 rfl rfl (Sat.start w) ?_
 refine T.seq fun K1 hK1 => ?_
 refine T.region ?_
 refine RS.p (Pu.assign rfl) rfl rfl ?_
 refine RS.nil (hK1 _ _ ?_)
 refine T.seq fun K2 hK2 => ?_
 refine T.seq fun K3 hK3 => ?_
 refine T.region ?_
 refine RS.p (Pu.assign rfl) rfl rfl ?_
 refine RS.nil (hK3 _ _ ?_)
 refine T.joinE (σ := List Prt) (γ := (Option Nat × Nat)) H (fun s => s) [] trivial (fun v2 q3 => [(6, rowV q3 v2.length)]) (fun v2 q3 => Sat w [row nilH 40 (rowV q3 v2.length) v2]) ?_ ?_
 ·rintro v2 q3 H
  try dsimp only [Ex.then] at H
  refine Cont.conseq (fr' := [(6, _)]) ?_ ⟨rfl, trivial⟩ (fun _ s => s)
  refine id (hK2 _ _ ?_)
  refine T.seq fun K4 hK4 => ?_
  refine T.region ?_
  refine RS.p (Pu.move rfl) rfl rfl ?_
  obtain ⟨x4, hx4, H⟩ := bindE H
  refine RS.solid (Sd.callF0 (vs := [rowV q3 v2.length, .func (.func 33) #[] #[]]) (C' := row nilH 40 (rowV q3 v2.length) x4) (v := .tuple #[]) 0 ent32 rfl rfl (fun w s => slices_SortFuncP_walk v2 rfl  hx4 w s)) rfl rfl fun _ => ?_
  refine RS.nil (hK4 _ _ ?_)
  refine T.seq fun K5 hK5 => ?_
  refine T.region ?_
  refine RS.p (Pu.move rfl) rfl rfl ?_
  refine RS.p (Pu.assign rfl) rfl rfl ?_
  refine RS.nil (hK5 _ _ (T.conseq (fr' := [(6, _)]) ?_ ⟨rfl, trivial⟩ (fun _ s => s)))
  obtain rfl := Option.some.inj H
  refine T.rt (Cont.ret1 rfl rfl fun w' s => ?_)
  exact ⟨q3, (by simp only [(s.row_fits (q := q3) (m := v2.length) (k := 0) rfl).1]; try rfl), (Sat.relen (q := q3) (m := v2.length) 0 s rfl).pick [0] (by decide) rfl⟩
 ·intro z1 hz1 HX1 hJ1
  refine T.block ?_
  refine T.loopA (γ := (Option Nat × Nat)) hz1 [(0, _), (1, _), (2, _)] (fun (l5, v7) q6 => [(6, rowV q6 l5.length), (7, .int .i64 v7)]) (fun (l5, v7) q6 => Sat w [row nilH 40 (rowV q6 l5.length) l5]) (none, 0) ⟨rfl, rfl, rfl, trivial⟩ ⟨rfl, rfl, trivial⟩ (fun w s => (s.nilRow (α := Prt) 40).pick [0] (by decide) rfl) ?_
  rintro ⟨l5, v7⟩ q6 y8 H hd1 KL1 hL1
  try dsimp only [Ex.then] at H
  refine T.conseq (fr' := [(6, _), (7, _), (0, _), (1, _), (2, _)]) ?_ ⟨rfl, rfl, rfl, rfl, rfl, trivial⟩ (fun _ s => s)
  refine T.seq fun K6 hK6 => ?_
  refine T.seq fun K7 hK7 => ?_
  refine T.region ?_
  refine RS.p (Pu.move rfl) rfl rfl ?_
  refine RS.p (Pu.move rfl) rfl rfl ?_
  refine RS.p (Pu.bin rfl rfl rfl) rfl rfl ?_
  refine RS.nil (hK7 _ _ ?_)
  refine T.condP rfl (fun hc9 => ?_) (fun hc9 => ?_)
  ·have H := ifT hc9 H
   refine T.skip (hK6 _ _ (T.conseq (fr' := [(0, _), (1, _), (2, _), (6, _), (7, _)]) ?_ ⟨rfl, rfl, rfl, rfl, rfl, trivial⟩ (fun _ s => s)))
   refine T.seq fun K8 hK8 => ?_
   refine T.block ?_
   refine T.seq fun K9 hK9 => ?_
   refine T.region ?_
   refine RS.p (Pu.assign rfl) rfl rfl ?_
   refine RS.nil (hK9 _ _ ?_)
   refine T.joinE (σ := List Prt) (γ := (Option Nat × Nat)) H (fun s => s) [(0, _), (1, _), (2, _), (7, _)] ⟨rfl, rfl, rfl, rfl, trivial⟩ (fun v11 q12 => [(6, rowV q12 v11.length)]) (fun v11 q12 => Sat w [row nilH 40 (rowV q12 v11.length) v11]) ?_ ?_
   ·rintro v11 q12 H
    try dsimp only [Ex.then] at H
    refine Cont.conseq (fr' := [(6, _), (0, _), (1, _), (2, _), (7, _)]) ?_ ⟨rfl, rfl, rfl, rfl, rfl, trivial⟩ (fun _ s => s)
    refine id (hK8 _ _ ?_)
    refine T.region ?_
    refine RS.p (Pu.move rfl) rfl rfl ?_
    obtain ⟨g13, H⟩ := gdE H
    refine RS.p (Pu.addS rfl rfl g13) rfl rfl ?_
    refine RS.p (Pu.assign rfl) rfl rfl ?_
    refine RS.nil (hL1 _ _ (v11, (v7 + 8)) q12 H ⟨rfl, rfl, rfl, trivial⟩ ⟨rfl, rfl, trivial⟩ (fun w s => s))
   ·intro z10 hz10 HX10 hJ10
    refine T.block ?_
    refine T.loopA (γ := (Option Nat × Nat)) hz10 [(0, _), (1, _), (2, _), (7, _)] (fun (v14, l15) q16 => [(6, rowV q16 l15.length), (8, .int .i64 v14)]) (fun (v14, l15) q16 => Sat w [row nilH 40 (rowV q16 l15.length) l15]) q6 ⟨rfl, rfl, rfl, rfl, trivial⟩ ⟨rfl, rfl, trivial⟩ (fun w s => s) ?_
    rintro ⟨v14, l15⟩ q16 y17 H hd10 KL10 hL10
    try dsimp only [Ex.then] at H
    refine T.conseq (fr' := [(6, _), (8, _), (0, _), (1, _), (2, _), (7, _)]) ?_ ⟨rfl, rfl, rfl, rfl, rfl, rfl, trivial⟩ (fun _ s => s)
    refine T.seq fun K10 hK10 => ?_
    refine T.seq fun K11 hK11 => ?_
    refine T.region ?_
    refine RS.p (Pu.move rfl) rfl rfl ?_
    refine RS.p (Pu.move rfl) rfl rfl ?_
    refine RS.p (Pu.bin rfl rfl rfl) rfl rfl ?_
    refine RS.nil (hK11 _ _ ?_)
    refine T.condP rfl (fun hc18 => ?_) (fun hc18 => ?_)
    ·have H := ifT hc18 H
     refine T.skip (hK10 _ _ (T.conseq (fr' := [(0, _), (1, _), (2, _), (6, _), (7, _), (8, _)]) ?_ ⟨rfl, rfl, rfl, rfl, rfl, rfl, trivial⟩ (fun _ s => s)))
     refine T.seq fun K12 hK12 => ?_
     refine T.block ?_
     refine T.seq fun K13 hK13 => ?_
     refine T.seq fun K14 hK14 => ?_
     refine T.region ?_
     refine RS.p (Pu.move rfl) rfl rfl ?_
     obtain ⟨g19, H⟩ := gdE H
     refine RS.p (Pu.addS rfl rfl g19) rfl rfl ?_
     refine RS.p (Pu.move rfl) rfl rfl ?_
     refine RS.p (Pu.bin rfl rfl rfl) rfl rfl ?_
     refine RS.nil (hK14 _ _ ?_)
     refine T.joinE (σ := List Prt) (γ := (Option Nat × Nat)) H (fun s => s) [(0, _), (1, _), (2, _), (7, _), (8, _)] ⟨rfl, rfl, rfl, rfl, rfl, trivial⟩ (fun v21 q22 => [(6, rowV q22 v21.length)]) (fun v21 q22 => Sat w [row nilH 40 (rowV q22 v21.length) v21]) ?_ ?_
     ·rintro v21 q22 H
      try dsimp only [Ex.then] at H
      refine Cont.conseq (fr' := [(6, _), (0, _), (1, _), (2, _), (7, _), (8, _)]) ?_ ⟨rfl, rfl, rfl, rfl, rfl, rfl, trivial⟩ (fun _ s => s)
      refine id (hK13 _ _ ?_)
      refine T.seq fun K15 hK15 => ?_
      refine T.region ?_
      refine RS.p (Pu.move rfl) rfl rfl ?_
      obtain ⟨g23, H⟩ := gdE H
      refine RS.p (Pu.addS rfl rfl g23) rfl rfl ?_
      refine RS.p (Pu.move rfl) rfl rfl ?_
      refine RS.p (Pu.bin rfl rfl rfl) rfl rfl ?_
      refine RS.nil (hK15 _ _ ?_)
      refine T.condP rfl (fun hc24 => ?_) (fun hc24 => ?_)
      ·have H := ifT hc24 H
       refine T.conseq (fr' := [(0, _), (1, _), (2, _), (6, _), (7, _), (8, _)]) ?_ ⟨rfl, rfl, rfl, rfl, rfl, rfl, trivial⟩ (fun _ s => s)
       refine T.region ?_
       refine RS.p (Pu.move rfl) rfl rfl ?_
       refine RS.p (Pu.move rfl) rfl rfl ?_
       refine RS.p (Pu.move rfl) rfl rfl ?_
       refine RS.p (Pu.move rfl) rfl rfl ?_
       refine RS.p (Pu.move rfl) rfl rfl ?_
       obtain ⟨g25, H⟩ := gdE H
       refine RS.p (Pu.addS rfl rfl g25) rfl rfl ?_
       obtain ⟨g26, H⟩ := gdE H
       refine RS.p (Pu.subS rfl rfl g26) rfl rfl ?_
       obtain ⟨g27, H⟩ := gdE H
       refine RS.p (Pu.mulS rfl rfl g27) rfl rfl ?_
       obtain ⟨g28, H⟩ := gdE H
       refine RS.p (Pu.addS rfl rfl g28) rfl rfl ?_
       refine RS.p (Pu.move rfl) rfl rfl ?_
       refine RS.p (Pu.move rfl) rfl rfl ?_
       refine RS.p (Pu.move rfl) rfl rfl ?_
       obtain ⟨g29, H⟩ := gdE H
       refine RS.p (Pu.subS rfl rfl g29) rfl rfl ?_
       refine RS.p (Pu.minI rfl rfl) rfl rfl ?_
       obtain ⟨x30, hx30, H⟩ := bindE H
       refine RS.solid (Sd.callN (vs := [.slice p0 a2_free.length c0, .int .i64 (v14 + (a0_w * ((v7 + 8) - 1))), .int .i64 a0_w, .int .i64 1, .int .i64 (min 8 (a0_w - v14))]) ent31 rfl (fun w s => portal_border_walk a2_free (v14 + (a0_w * ((v7 + 8) - 1))) a0_w 1 (min 8 (a0_w - v14)) w ((Rd.base h0) w s) hx30)) rfl rfl fun q31 => ?_
       obtain ⟨g33, H⟩ := gdE H
       refine RS.solid (Sd.appR (α := Prt) 0 (nilH_lt _) rfl sl27 zr40 rfl rfl rfl (Rd.ofRowN 1 rfl) g33 (by decide)) rfl rfl fun q32 => ?_
       refine RS.p (Pu.assign rfl) rfl rfl ?_
       refine RS.nil (hK12 _ _ (T.conseq (fr' := [(0, _), (1, _), (2, _), (6, _), (7, _), (8, _)]) ?_ ⟨rfl, rfl, rfl, rfl, rfl, rfl, trivial⟩ (fun _ s => s)))
       refine T.region ?_
       refine RS.p (Pu.move rfl) rfl rfl ?_
       obtain ⟨g34, H⟩ := gdE H
       refine RS.p (Pu.addS rfl rfl g34) rfl rfl ?_
       refine RS.p (Pu.assign rfl) rfl rfl ?_
       refine RS.nil (hL10 _ _ ((v14 + 8), (v21 ++ x30)) q32 H ⟨rfl, rfl, rfl, rfl, trivial⟩ ⟨rfl, rfl, trivial⟩ (fun w s => s.pick [0] (by decide) rfl))
      ·have H := ifF hc24 H
       refine T.skip (hK12 _ _ (T.conseq (fr' := [(0, _), (1, _), (2, _), (6, _), (7, _), (8, _)]) ?_ ⟨rfl, rfl, rfl, rfl, rfl, rfl, trivial⟩ (fun _ s => s)))
       refine T.region ?_
       refine RS.p (Pu.move rfl) rfl rfl ?_
       obtain ⟨g35, H⟩ := gdE H
       refine RS.p (Pu.addS rfl rfl g35) rfl rfl ?_
       refine RS.p (Pu.assign rfl) rfl rfl ?_
       refine RS.nil (hL10 _ _ ((v14 + 8), v21) q22 H ⟨rfl, rfl, rfl, rfl, trivial⟩ ⟨rfl, rfl, trivial⟩ (fun w s => s))
     ·intro z20 H HX20 hJ20
      refine T.condP rfl (fun hc36 => ?_) (fun hc36 => ?_)
      ·have H := ifT hc36 H
       refine T.conseq (fr' := [(0, _), (1, _), (2, _), (6, _), (7, _), (8, _)]) ?_ ⟨rfl, rfl, rfl, rfl, rfl, rfl, trivial⟩ (fun _ s => s)
       refine T.region ?_
       refine RS.p (Pu.move rfl) rfl rfl ?_
       refine RS.p (Pu.move rfl) rfl rfl ?_
       refine RS.p (Pu.move rfl) rfl rfl ?_
       obtain ⟨g37, H⟩ := gdE H
       refine RS.p (Pu.addS rfl rfl g37) rfl rfl ?_
       obtain ⟨g38, H⟩ := gdE H
       refine RS.p (Pu.subS rfl rfl g38) rfl rfl ?_
       refine RS.p (Pu.move rfl) rfl rfl ?_
       refine RS.p (Pu.move rfl) rfl rfl ?_
       obtain ⟨g39, H⟩ := gdE H
       refine RS.p (Pu.mulS rfl rfl g39) rfl rfl ?_
       obtain ⟨g40, H⟩ := gdE H
       refine RS.p (Pu.addS rfl rfl g40) rfl rfl ?_
       refine RS.p (Pu.move rfl) rfl rfl ?_
       refine RS.p (Pu.move rfl) rfl rfl ?_
       refine RS.p (Pu.move rfl) rfl rfl ?_
       obtain ⟨g41, H⟩ := gdE H
       refine RS.p (Pu.subS rfl rfl g41) rfl rfl ?_
       refine RS.p (Pu.minI rfl rfl) rfl rfl ?_
       obtain ⟨x42, hx42, H⟩ := bindE H
       refine RS.solid (Sd.callN (vs := [.slice p0 a2_free.length c0, .int .i64 (((v14 + 8) - 1) + (a0_w * v7)), .int .i64 1, .int .i64 a0_w, .int .i64 (min 8 (a1_h - v7))]) ent31 rfl (fun w s => portal_border_walk a2_free (((v14 + 8) - 1) + (a0_w * v7)) 1 a0_w (min 8 (a1_h - v7)) w ((Rd.base h0) w s) hx42)) rfl rfl fun q43 => ?_
       obtain ⟨g45, H⟩ := gdE H
       refine RS.solid (Sd.appR (α := Prt) 0 (nilH_lt _) rfl sl27 zr40 rfl rfl rfl (Rd.ofRowN 1 rfl) g45 (by decide)) rfl rfl fun q44 => ?_
       refine RS.p (Pu.assign rfl) rfl rfl ?_
       obtain rfl := Option.some.inj H
       refine RS.nil (hJ20 _ _ (l15 ++ x42) q44 HX20 ⟨rfl, rfl, rfl, rfl, rfl, trivial⟩ ⟨rfl, trivial⟩ (fun w s => s.pick [0] (by decide) rfl))
      ·have H := ifF hc36 H
       obtain rfl := Option.some.inj H
       refine T.skip (hJ20 _ _ l15 q16 HX20 ⟨rfl, rfl, rfl, rfl, rfl, trivial⟩ ⟨rfl, trivial⟩ (fun w s => s))
    ·have H := ifF hc18 H
     obtain rfl := hd10 _ H
     refine T.xt (hJ10 _ _ l15 q16 HX10 ⟨rfl, rfl, rfl, rfl, trivial⟩ ⟨rfl, trivial⟩ (fun w s => s))
  ·have H := ifF hc9 H
   obtain rfl := hd1 _ H
   refine T.xt (hJ1 _ _ l5 q6 HX1 trivial ⟨rfl, trivial⟩ (fun w s => s))
theorem portal_Find_walk (a0_w : Int) (a1_h : Int) (a2_free : List Bool) (w : World) {v0 : Value} (h0 : R (hpOf w) a2_free [v0]) {r : List Prt × Int} (H : portal_Find a0_w a1_h a2_free = some r) : Calls Try.prog 11 #[.int .i64 a0_w, .int .i64 a1_h, v0] w fun e w' => ∃ q1 : (Option Nat × Nat), e = .returned (.tuple #[rowV q1 r.1.length, .int .i64 r.2]) ∧ Sat w [row nilH 40 (rowV q1 r.1.length) r.1] w' := by
 have hm0 := R_max h0
 obtain ⟨p0, c0, rfl⟩ := R_form h0
 unfold portal_Find at H
 refine T.enter (args := [_, _, _]) (S := Sat w []) Try.func11 rfl rfl (Sat.start w) ?_
 refine T.seq fun K1 hK1 => ?_
 refine T.region ?_
 refine RS.p (Pu.assign rfl) rfl rfl ?_
 refine RS.p (Pu.assign rfl) rfl rfl ?_
 refine RS.nil (hK1 _ _ ?_)
 refine T.seq fun K2 hK2 => ?_
 refine T.seq fun K3 hK3 => ?_
 refine T.region ?_
 refine RS.p (Pu.move rfl) rfl rfl ?_
 refine RS.p (Pu.move rfl) rfl rfl ?_
 obtain ⟨x1, hx1, H⟩ := bindE H
 refine RS.q (Qt.call (vs := [.int .i64 a0_w, .int .i64 a1_h]) ent22 rfl fun w s => sector_May_walk a0_w a1_h w  hx1) rfl rfl ?_
 refine RS.p (Pu.not rfl) rfl rfl ?_
 refine RS.p (Pu.move rfl) rfl rfl ?_
 obtain ⟨g4, H⟩ := gdE H
 refine RS.joinV 7 19 (.bool (decide (((!x1) = true) ∨ (¬ (a2_free.length : Int) = (a0_w * a1_h))))) [(0, _), (1, _), (2, _)] ⟨rfl, rfl, rfl, trivial⟩ ?_ ?_
 ·refine RS.nil (hK3 _ _ ?_)
  refine T.condP rfl (fun hc5 => ?_) (fun hc5 => ?_)
  ·have H := ifT hc5 H
   refine T.conseq (fr' := []) ?_ trivial (fun _ s => s)
   refine T.seq fun K4 hK4 => ?_
   refine T.region ?_
   refine RS.p (Pu.assign rfl) rfl rfl ?_
   refine RS.p (Pu.assign rfl) rfl rfl ?_
   refine RS.nil (hK4 _ _ ?_)
   obtain rfl := Option.some.inj H
   refine T.rt (Cont.ret2 rfl rfl rfl fun w' s => ?_)
   exact ⟨(none, 0), rfl, (s.nilRow (α := Prt) 40).pick [0] (by decide) rfl⟩
  ·have H := ifF hc5 H
   refine T.skip (hK2 _ _ ?_)
   refine T.seq fun K5 hK5 => ?_
   refine T.region ?_
   refine RS.p (Pu.move rfl) rfl rfl ?_
   refine RS.p (Pu.move rfl) rfl rfl ?_
   refine RS.p (Pu.move rfl) rfl rfl ?_
   obtain ⟨x6, hx6, H⟩ := bindE H
   refine RS.solid (Sd.callN (vs := [.int .i64 a0_w, .int .i64 a1_h, .slice p0 a2_free.length c0]) ent23 rfl (fun w s => portal_All_walk a0_w a1_h a2_free w ((Rd.base h0) w s) hx6)) rfl rfl fun q7 => ?_
   refine RS.p (Pu.assign rfl) rfl rfl ?_
   refine RS.p (Pu.assign rfl) rfl rfl ?_
   refine RS.nil (hK5 _ _ (T.conseq (fr' := [(6, _), (7, _)]) ?_ ⟨rfl, rfl, trivial⟩ (fun _ s => s)))
   obtain rfl := Option.some.inj H
   refine T.rt (Cont.ret2 rfl rfl rfl fun w' s => ?_)
   exact ⟨q7, rfl, s.pick [0] (by decide) rfl⟩
 ·intro hJ3
  refine RS.split 12 rfl (fun hc2 => ?_) (fun hc2 => ?_)
  ·refine RS.no rfl rfl ?_
   refine RS.no rfl rfl ?_
   refine RS.no rfl rfl ?_
   refine RS.no rfl rfl ?_
   refine RS.no rfl rfl ?_
   refine RS.no rfl rfl ?_
   refine RS.p (Pu.pickT rfl rfl) rfl rfl ?_
   exact hJ3 _ _ ⟨dOrT hc2, rfl, rfl, rfl, trivial⟩ (fun w s => s)
  ·refine RS.p (Pu.move rfl) rfl rfl ?_
   refine RS.p (Pu.lenSl sl22 rfl) rfl rfl ?_
   refine RS.p (Pu.move rfl) rfl rfl ?_
   refine RS.p (Pu.move rfl) rfl rfl ?_
   refine RS.p (Pu.mulS rfl rfl (g4 (bne_of hc2))) rfl rfl ?_
   refine RS.p (Pu.bin rfl rfl rfl) rfl rfl ?_
   refine RS.p (Pu.pickF rfl rfl) rfl rfl ?_
   exact hJ3 _ _ ⟨dOrF (bne_of hc2), rfl, rfl, rfl, trivial⟩ (fun w s => s)
theorem thronglaw11_num_walk (a0_e : Int) (w : World) {r : Int} (H : thronglaw11_num a0_e = some r) : Calls Try.prog 12 #[.int .i64 a0_e] w fun e w' => e = .returned (.int .i64 r) ∧ Ext w w' := by
 unfold thronglaw11_num at H
 refine T.enter (args := [_]) (S := Sat w []) Try.func12 rfl rfl (Sat.start w) ?_
 refine T.seq fun K1 hK1 => ?_
 refine T.region ?_
 refine RS.p (Pu.assign rfl) rfl rfl ?_
 refine RS.nil (hK1 _ _ ?_)
 refine T.seq fun K2 hK2 => ?_
 refine T.region ?_
 refine RS.p (Pu.move rfl) rfl rfl ?_
 refine RS.p (Pu.assign rfl) rfl rfl ?_
 refine RS.nil (hK2 _ _ ?_)
 obtain rfl := Option.some.inj H
 refine T.rt (Cont.ret1 rfl rfl fun w' s => ?_)
 exact ⟨rfl, s.ext⟩
theorem thronglaw11_wakes_walk (w : World) {r : Bool} (H : thronglaw11_wakes = some r) : Calls Try.prog 16 #[] w fun e w' => e = .returned (.bool r) ∧ Ext w w' := by
 unfold thronglaw11_wakes at H
 refine T.enter (args := []) (S := Sat w []) Try.func16 rfl rfl (Sat.start w) ?_
 refine T.seq fun K1 hK1 => ?_
 refine T.region ?_
 refine RS.p (Pu.assign rfl) rfl rfl ?_
 refine RS.nil (hK1 _ _ ?_)
 refine T.seq fun K2 hK2 => ?_
 refine T.region ?_
 obtain ⟨g2, H⟩ := gdE H
 refine RS.solid (Sd.make (α := Bool) (B := nilH) false sl22 zr4 rfl (by decide) rfl rfl (by omega) (by omega) (by omega)) rfl rfl fun b1 => ?_
 refine RS.p (Pu.assign rfl) rfl rfl ?_
 refine RS.nil (hK2 _ _ ?_)
 refine T.seq fun K3 hK3 => ?_
 refine T.seq fun K4 hK4 => ?_
 refine T.region ?_
 refine RS.p (Pu.assign rfl) rfl rfl ?_
 refine RS.nil (hK4 _ _ ?_)
 refine T.joinE (σ := List Bool) (γ := Unit) H (fun s => s) [(1, _)] ⟨rfl, trivial⟩ (fun v4 _ => []) (fun v4 _ => Sat w [row nilH 4 (rowV (some b1, (16 : Int).toNat) ((16 : Int).toNat)) v4]) ?_ ?_
 ·rintro v4 ⟨⟩ H
  try dsimp only [Ex.then] at H
  refine Cont.conseq (fr' := [(1, _)]) ?_ ⟨rfl, trivial⟩ (fun _ s => s)
  refine id (hK3 _ _ ?_)
  refine T.seq fun K5 hK5 => ?_
  refine T.region ?_
  refine RS.p (Pu.move rfl) rfl rfl ?_
  obtain ⟨x5, hx5, H⟩ := bindE H
  refine RS.solid (Sd.callN (vs := [.int .i64 16, .int .i64 1, rowV (some b1, (16 : Int).toNat) ((16 : Int).toNat)]) ent11 rfl (fun w s => portal_Find_walk 16 1 v4 w ((Rd.ofRowN 0 rfl) w s) hx5)) rfl rfl fun q6 => ?_
  refine RS.p (Pu.move rfl) rfl rfl ?_
  refine RS.p (Pu.extract rfl rfl) rfl rfl ?_
  refine RS.p (Pu.extract rfl rfl) rfl rfl ?_
  refine RS.p (Pu.assign rfl) rfl rfl ?_
  refine RS.p (Pu.assign rfl) rfl rfl ?_
  refine RS.nil (hK5 _ _ (T.conseq (fr' := [(3, _), (4, _)]) ?_ ⟨rfl, rfl, trivial⟩ (fun _ s => s)))
  refine T.seq fun K6 hK6 => ?_
  refine T.region ?_
  refine RS.p (Pu.move rfl) rfl rfl ?_
  obtain ⟨x7, hx7, H⟩ := bindE H
  refine RS.q (Qt.call (vs := [.int .i64 x5.2]) ent12 rfl fun w s => thronglaw11_num_walk x5.2 w  hx7) rfl rfl ?_
  refine RS.p (Pu.bin rfl rfl rfl) rfl rfl ?_
  refine RS.p (Pu.move rfl) rfl rfl ?_
  refine RS.joinB H 5 26 (fun b10 => .bool b10) [] trivial ?_ ?_
  ·intro b10 H
   refine RS.p (Pu.assign rfl) rfl rfl ?_
   refine RS.nil (hK6 _ _ ?_)
   obtain rfl := Option.some.inj H
   refine T.rt (Cont.ret1 rfl rfl fun w' s => ?_)
   exact ⟨rfl, s.ext⟩
  ·intro z11 H hJ9
   refine RS.splitP 21 rfl (fun hc8 => ?_) (fun hc8 => ?_)
   ·have H := ifT hc8 H
    refine RS.p (Pu.move rfl) rfl rfl ?_
    refine RS.p (Pu.build (cells := [_, _, _]) st40 rfl rfl) rfl rfl ?_
    refine RS.solid (Sd.litS (cs := [_, _, _]) sl27 zr40 rfl rfl rfl rfl rfl) rfl rfl fun b12 => ?_
    refine RS.weakS (fun w s => s.litRow (α := Prt) (n := 1) 2 [(⟨7, 8, 1⟩ : Prt)] rfl (by decide) rfl ⟨[_, _, _], _, rfl, rfl, rfl⟩) ?_
    obtain ⟨x13, hx13, H⟩ := bindE H
    refine RS.q (Qt.call (vs := [rowV q6 x5.1.length, rowV (some b12, 1) 1]) ent13 rfl fun w s => throngref0_EqPortals_walk x5.1 [(⟨7, 8, 1⟩ : Prt)] w ((Rd.ofRowN 1 rfl) w s) ((Rd.ofRowN 2 rfl) w s) hx13) rfl rfl ?_
    refine RS.p (Pu.pickT rfl rfl) rfl rfl ?_
    obtain rfl := Option.some.inj H
    exact hJ9 _ _ ⟨rfl, trivial⟩ (fun w s => s.pick [0, 1] (by decide) rfl)
   ·have H := ifF hc8 H
    refine RS.no rfl rfl ?_
    refine RS.no rfl rfl ?_
    refine RS.no rfl rfl ?_
    refine RS.no rfl rfl ?_
    refine RS.p (Pu.pickF rfl rfl) rfl rfl ?_
    obtain rfl := Option.some.inj H
    exact hJ9 _ _ ⟨rfl, trivial⟩ (fun w s => s)
 ·intro z3 hz3 HX3 hJ3
  refine T.block ?_
  refine T.loopA (γ := Unit) hz3 [(1, _)] (fun (v14, l15) _ => [(2, .int .i64 v14)]) (fun (v14, l15) _ => Sat w [row nilH 4 (rowV (some b1, (16 : Int).toNat) ((16 : Int).toNat)) l15]) () ⟨rfl, trivial⟩ ⟨rfl, trivial⟩ (fun w s => s) ?_
  rintro ⟨v14, l15⟩ ⟨⟩ y16 H hd3 KL3 hL3
  try dsimp only [Ex.then] at H
  refine T.conseq (fr' := [(2, _), (1, _)]) ?_ ⟨rfl, rfl, trivial⟩ (fun _ s => s)
  refine T.seq fun K7 hK7 => ?_
  refine T.seq fun K8 hK8 => ?_
  refine T.region ?_
  refine RS.p (Pu.move rfl) rfl rfl ?_
  refine RS.p (Pu.bin rfl rfl rfl) rfl rfl ?_
  refine RS.nil (hK8 _ _ ?_)
  refine T.condP rfl (fun hc17 => ?_) (fun hc17 => ?_)
  ·have H := ifT hc17 H
   refine T.skip (hK7 _ _ ?_)
   refine T.seq fun K9 hK9 => ?_
   refine T.block ?_
   refine T.region ?_
   refine RS.p (Pu.move rfl) rfl rfl ?_
   refine RS.p (Pu.move rfl) rfl rfl ?_
   obtain ⟨g18, H⟩ := gdE H
   refine RS.know (fun w s => (s.row_fits (q := (some b1, (16 : Int).toNat)) (m := (16 : Int).toNat) (k := 0) rfl)) fun hf19 => ?_
   refine RS.p (Pu.indexSl sl22 rfl rfl g18) rfl rfl ?_
   refine RS.solid (Sd.st0 (α := Bool) 0 true rfl ty4 rfl rfl rfl (idx_of hf19.1 g18) rfl rfl (by decide) rfl (by rintro _ _ rfl; rfl)) rfl rfl fun _ => ?_
   refine RS.nil (hK9 _ _ (T.conseq (fr' := [(1, _), (2, _)]) ?_ ⟨rfl, rfl, trivial⟩ (fun _ s => s)))
   refine T.region ?_
   refine RS.p (Pu.move rfl) rfl rfl ?_
   obtain ⟨g20, H⟩ := gdE H
   refine RS.p (Pu.addS rfl rfl g20) rfl rfl ?_
   refine RS.p (Pu.assign rfl) rfl rfl ?_
   refine RS.nil (hL3 _ _ ((v14 + 1), (si l15 v14 true)) () H ⟨rfl, trivial⟩ ⟨rfl, trivial⟩ (fun w s => s))
  ·have H := ifF hc17 H
   obtain rfl := hd3 _ H
   refine T.xt (hJ3 _ _ l15 () HX3 ⟨rfl, trivial⟩ trivial (fun w s => s))
theorem thronglaw11_heavy_walk (a0_p : Ask) (w : World) {v0 v1 v2 : Value} (h0 : R (hpOf w) a0_p.Free [v0]) (h1 : R (hpOf w) a0_p.Ts [v1]) (h2 : R (hpOf w) a0_p.Parts [v2]) {r : Bool} (H : thronglaw11_heavy a0_p = some r) : Calls Try.prog 7 #[.agg #[.int .i64 a0_p.W, .int .i64 a0_p.H, v0, v1, v2]] w fun e w' => e = .returned (.bool r) ∧ Ext w w' := by
 have hm0 := R_max h0
 obtain ⟨p0, c0, rfl⟩ := R_form h0
 have hm1 := R_max h1
 obtain ⟨p1, c1, rfl⟩ := R_form h1
 have hm2 := R_max h2
 obtain ⟨p2, c2, rfl⟩ := R_form h2
 unfold thronglaw11_heavy at H
 refine T.enter (args := [_]) (S := Sat w []) Try.func7 rfl rfl (Sat.start w) ?_
 refine T.seq fun K1 hK1 => ?_
 refine T.region ?_
 refine RS.solid (Sd.box (cs := [_, _, _, _, _]) rfl rfl) rfl rfl fun b1 => ?_
 refine RS.p (Pu.assign rfl) rfl rfl ?_
 refine RS.nil (hK1 _ _ ?_)
 refine T.seq fun K2 hK2 => ?_
 refine T.region ?_
 refine RS.p (Pu.fieldAddr fd25_2 rfl) rfl rfl ?_
 refine RS.q (Qt.ldB 0 ty22 rfl rfl rfl) rfl rfl ?_
 refine RS.p (Pu.lenSl sl22 rfl) rfl rfl ?_
 refine RS.p (Pu.bin rfl rfl rfl) rfl rfl ?_
 refine RS.p (Pu.assign rfl) rfl rfl ?_
 refine RS.nil (hK2 _ _ (T.conseq (fr' := [(2, _)]) ?_ ⟨rfl, trivial⟩ (fun _ s => s)))
 obtain rfl := Option.some.inj H
 refine T.rt (Cont.ret1 rfl rfl fun w' s => ?_)
 exact ⟨rfl, s.ext⟩
theorem thronglaw11_apart_walk (a0_p : Ask) (a1_a : Int) (a2_b : Int) (w : World) {v0 v1 v2 : Value} (h0 : R (hpOf w) a0_p.Free [v0]) (h1 : R (hpOf w) a0_p.Ts [v1]) (h2 : R (hpOf w) a0_p.Parts [v2]) {r : Bool} (H : thronglaw11_apart a0_p a1_a a2_b = some r) : Calls Try.prog 17 #[.agg #[.int .i64 a0_p.W, .int .i64 a0_p.H, v0, v1, v2], .int .i64 a1_a, .int .i64 a2_b] w fun e w' => e = .returned (.bool r) ∧ Ext w w' := by
 have hm0 := R_max h0
 obtain ⟨p0, c0, rfl⟩ := R_form h0
 have hm1 := R_max h1
 obtain ⟨p1, c1, rfl⟩ := R_form h1
 have hm2 := R_max h2
 obtain ⟨p2, c2, rfl⟩ := R_form h2
 unfold thronglaw11_apart at H
 refine T.enter (args := [_, _, _]) (S := Sat w []) Try.func17 rfl rfl (Sat.start w) ?_
 refine T.seq fun K1 hK1 => ?_
 refine T.region ?_
 refine RS.solid (Sd.box (cs := [_, _, _, _, _]) rfl rfl) rfl rfl fun b1 => ?_
 refine RS.p (Pu.assign rfl) rfl rfl ?_
 refine RS.nil (hK1 _ _ ?_)
 refine T.seq fun K2 hK2 => ?_
 refine T.region ?_
 refine RS.p (Pu.fieldAddr fd25_0 rfl) rfl rfl ?_
 refine RS.q (Qt.ldB 0 ty3 rfl rfl rfl) rfl rfl ?_
 refine RS.p (Pu.fieldAddr fd25_1 rfl) rfl rfl ?_
 refine RS.q (Qt.ldB 0 ty3 rfl rfl rfl) rfl rfl ?_
 refine RS.p (Pu.move rfl) rfl rfl ?_
 obtain ⟨x2, hx2, H⟩ := bindE H
 refine RS.q (Qt.call (vs := [.int .i64 a0_p.W, .int .i64 a0_p.H, .int .i64 a1_a]) ent24 rfl fun w s => sector_Of_walk a0_p.W a0_p.H a1_a w  hx2) rfl rfl ?_
 refine RS.p (Pu.move rfl) rfl rfl ?_
 refine RS.p (Pu.extract rfl rfl) rfl rfl ?_
 refine RS.p (Pu.extract rfl rfl) rfl rfl ?_
 refine RS.p (Pu.assign rfl) rfl rfl ?_
 refine RS.p (Pu.assign rfl) rfl rfl ?_
 refine RS.nil (hK2 _ _ (T.conseq (fr' := [(1, _), (2, _), (3, _), (7, _), (8, _)]) ?_ ⟨rfl, rfl, rfl, rfl, rfl, trivial⟩ (fun _ s => s)))
 refine T.seq fun K3 hK3 => ?_
 refine T.region ?_
 refine RS.p (Pu.fieldAddr fd25_0 rfl) rfl rfl ?_
 refine RS.q (Qt.ldB 0 ty3 rfl rfl rfl) rfl rfl ?_
 refine RS.p (Pu.fieldAddr fd25_1 rfl) rfl rfl ?_
 refine RS.q (Qt.ldB 0 ty3 rfl rfl rfl) rfl rfl ?_
 refine RS.p (Pu.move rfl) rfl rfl ?_
 obtain ⟨x3, hx3, H⟩ := bindE H
 refine RS.q (Qt.call (vs := [.int .i64 a0_p.W, .int .i64 a0_p.H, .int .i64 a2_b]) ent24 rfl fun w s => sector_Of_walk a0_p.W a0_p.H a2_b w  hx3) rfl rfl ?_
 refine RS.p (Pu.move rfl) rfl rfl ?_
 refine RS.p (Pu.extract rfl rfl) rfl rfl ?_
 refine RS.p (Pu.extract rfl rfl) rfl rfl ?_
 refine RS.p (Pu.assign rfl) rfl rfl ?_
 refine RS.p (Pu.assign rfl) rfl rfl ?_
 refine RS.nil (hK3 _ _ (T.conseq (fr' := [(1, _), (2, _), (3, _), (7, _), (8, _), (9, _), (10, _)]) ?_ ⟨rfl, rfl, rfl, rfl, rfl, rfl, rfl, trivial⟩ (fun _ s => s)))
 refine T.seq fun K4 hK4 => ?_
 refine T.region ?_
 refine RS.p (Pu.move rfl) rfl rfl ?_
 obtain ⟨x4, hx4, H⟩ := bindE H
 refine RS.q (Qt.call (vs := [.int .i64 x2.2]) ent12 rfl fun w s => thronglaw11_num_walk x2.2 w  hx4) rfl rfl ?_
 refine RS.p (Pu.bin rfl rfl rfl) rfl rfl ?_
 refine RS.p (Pu.move rfl) rfl rfl ?_
 refine RS.joinB H 4 36 (fun b7 => .bool b7) [(1, _), (2, _), (3, _), (7, _), (9, _)] ⟨rfl, rfl, rfl, rfl, rfl, trivial⟩ ?_ ?_
 ·intro b7 H
  refine RS.p (Pu.move rfl) rfl rfl ?_
  obtain ⟨g10, H⟩ := gdE H
  refine RS.joinV 6 43 (.bool (decide ((b7 = true) ∧ ((gi a0_p.Free a1_a) = true)))) [(2, _), (3, _), (7, _), (9, _)] ⟨rfl, rfl, rfl, rfl, trivial⟩ ?_ ?_
  ·refine RS.p (Pu.move rfl) rfl rfl ?_
   obtain ⟨g13, H⟩ := gdE H
   refine RS.joinV 6 50 (.bool (decide (((b7 = true) ∧ ((gi a0_p.Free a1_a) = true)) ∧ ((gi a0_p.Free a2_b) = true)))) [(7, _), (9, _)] ⟨rfl, rfl, trivial⟩ ?_ ?_
   ·refine RS.p (Pu.move rfl) rfl rfl ?_
    refine RS.joinV 4 55 (.bool (decide ((((b7 = true) ∧ ((gi a0_p.Free a1_a) = true)) ∧ ((gi a0_p.Free a2_b) = true)) ∧ (¬ x2.1 = x3.1)))) [] trivial ?_ ?_
    ·refine RS.p (Pu.assign rfl) rfl rfl ?_
     refine RS.nil (hK4 _ _ ?_)
     obtain rfl := Option.some.inj H
     refine T.rt (Cont.ret1 rfl rfl fun w' s => ?_)
     exact ⟨rfl, s.ext⟩
    ·intro hJ15
     refine RS.splitP 51 rfl (fun hc14 => ?_) (fun hc14 => ?_)
     ·refine RS.p (Pu.move rfl) rfl rfl ?_
      refine RS.p (Pu.move rfl) rfl rfl ?_
      refine RS.p (Pu.bin rfl rfl rfl) rfl rfl ?_
      refine RS.p (Pu.pickT rfl rfl) rfl rfl ?_
      exact hJ15 _ _ ⟨dAndT hc14, trivial⟩ (fun w s => s)
     ·refine RS.no rfl rfl ?_
      refine RS.no rfl rfl ?_
      refine RS.no rfl rfl ?_
      refine RS.p (Pu.pickF rfl rfl) rfl rfl ?_
      exact hJ15 _ _ ⟨dAndF hc14, trivial⟩ (fun w s => s)
   ·intro hJ12
    refine RS.splitP 44 rfl (fun hc11 => ?_) (fun hc11 => ?_)
    ·refine RS.p (Pu.fieldAddr fd25_2 rfl) rfl rfl ?_
     refine RS.q (Qt.ldB 0 ty22 rfl rfl rfl) rfl rfl ?_
     refine RS.p (Pu.move rfl) rfl rfl ?_
     obtain ⟨bl16, ol17, rfl⟩ := R_ptr h0 (ne_of_pos (pos_of (g13 hc11)))
     refine RS.p (Pu.indexSl sl22 rfl rfl (g13 hc11)) rfl rfl ?_
     refine RS.q (Qt.ld0 (α := Bool) (Rd.base h0) ty4 rfl rfl (g13 hc11) (by rintro _ _ rfl; rfl)) rfl rfl ?_
     refine RS.p (Pu.pickT rfl rfl) rfl rfl ?_
     exact hJ12 _ _ ⟨dAndTB hc11, rfl, rfl, trivial⟩ (fun w s => s)
    ·refine RS.no rfl rfl ?_
     refine RS.no rfl rfl ?_
     refine RS.no rfl rfl ?_
     refine RS.no rfl rfl ?_
     refine RS.no rfl rfl ?_
     refine RS.p (Pu.pickF rfl rfl) rfl rfl ?_
     exact hJ12 _ _ ⟨dAndF hc11, rfl, rfl, trivial⟩ (fun w s => s)
  ·intro hJ9
   refine RS.split 37 rfl (fun hc8 => ?_) (fun hc8 => ?_)
   ·refine RS.p (Pu.fieldAddr fd25_2 rfl) rfl rfl ?_
    refine RS.q (Qt.ldB 0 ty22 rfl rfl rfl) rfl rfl ?_
    refine RS.p (Pu.move rfl) rfl rfl ?_
    obtain ⟨bl18, ol19, rfl⟩ := R_ptr h0 (ne_of_pos (pos_of (g10 hc8)))
    refine RS.p (Pu.indexSl sl22 rfl rfl (g10 hc8)) rfl rfl ?_
    refine RS.q (Qt.ld0 (α := Bool) (Rd.base h0) ty4 rfl rfl (g10 hc8) (by rintro _ _ rfl; rfl)) rfl rfl ?_
    refine RS.p (Pu.pickT rfl rfl) rfl rfl ?_
    exact hJ9 _ _ ⟨dAndTB hc8, rfl, rfl, rfl, rfl, trivial⟩ (fun w s => s)
   ·refine RS.no rfl rfl ?_
    refine RS.no rfl rfl ?_
    refine RS.no rfl rfl ?_
    refine RS.no rfl rfl ?_
    refine RS.no rfl rfl ?_
    refine RS.p (Pu.pickF rfl rfl) rfl rfl ?_
    exact hJ9 _ _ ⟨dAndF (bne_of hc8), rfl, rfl, rfl, rfl, trivial⟩ (fun w s => s)
 ·intro z20 H hJ6
  refine RS.splitP 32 rfl (fun hc5 => ?_) (fun hc5 => ?_)
  ·have H := ifT hc5 H
   refine RS.p (Pu.move rfl) rfl rfl ?_
   obtain ⟨x21, hx21, H⟩ := bindE H
   refine RS.q (Qt.call (vs := [.int .i64 x3.2]) ent12 rfl fun w s => thronglaw11_num_walk x3.2 w  hx21) rfl rfl ?_
   refine RS.p (Pu.bin rfl rfl rfl) rfl rfl ?_
   refine RS.p (Pu.pickT rfl rfl) rfl rfl ?_
   obtain rfl := Option.some.inj H
   exact hJ6 _ _ ⟨rfl, rfl, rfl, rfl, rfl, rfl, trivial⟩ (fun w s => s)
  ·have H := ifF hc5 H
   refine RS.no rfl rfl ?_
   refine RS.no rfl rfl ?_
   refine RS.no rfl rfl ?_
   refine RS.p (Pu.pickF rfl rfl) rfl rfl ?_
   obtain rfl := Option.some.inj H
   exact hJ6 _ _ ⟨rfl, rfl, rfl, rfl, rfl, rfl, trivial⟩ (fun w s => s)
end Go.Proofs.Ytddicdmleeaihaa
