/-
  Walks of the peers' functions.
-/
import Derived.Test.YtnadebijiaelkaaRows
import Derived.Test.YtnadebijiaelkaaTJ
import Derived.Test.YtnadebijiaelkaaW5
set_option linter.unusedVariables false
set_option linter.unusedSimpArgs false
set_option maxRecDepth 20000
set_option maxHeartbeats 4000000
namespace Go.Proofs.Ytnadebijiaelkaa
open Go.Vg
open Enc (R)
theorem ent30 : Ent Try.prog 30 := ⟨_, _, Try.func30, by kernel_rfl, rfl⟩
theorem ent32 : Ent Try.prog 32 := ⟨_, _, Try.func32, by kernel_rfl, rfl⟩
theorem ent33 : Ent Try.prog 33 := ⟨_, _, Try.func33, by kernel_rfl, rfl⟩
theorem ent37 : Ent Try.prog 37 := ⟨_, _, Try.func37, by kernel_rfl, rfl⟩
theorem ent38 : Ent Try.prog 38 := ⟨_, _, Try.func38, by kernel_rfl, rfl⟩
theorem ent41 : Ent Try.prog 41 := ⟨_, _, Try.func41, by kernel_rfl, rfl⟩
theorem ent44 : Ent Try.prog 44 := ⟨_, _, Try.func44, by kernel_rfl, rfl⟩
theorem ent50 : Ent Try.prog 50 := ⟨_, _, Try.func50, by kernel_rfl, rfl⟩
theorem ent51 : Ent Try.prog 51 := ⟨_, _, Try.func51, by kernel_rfl, rfl⟩
theorem ent52 : Ent Try.prog 52 := ⟨_, _, Try.func52, by kernel_rfl, rfl⟩
theorem ent53 : Ent Try.prog 53 := ⟨_, _, Try.func53, by kernel_rfl, rfl⟩
theorem ent54 : Ent Try.prog 54 := ⟨_, _, Try.func54, by kernel_rfl, rfl⟩
theorem ent55 : Ent Try.prog 55 := ⟨_, _, Try.func55, by kernel_rfl, rfl⟩
theorem ent61 : Ent Try.prog 61 := ⟨_, _, Try.func61, by kernel_rfl, rfl⟩
theorem fd26_0 : fdOff Try.prog 26 0 = some 0 := by kernel_rfl
theorem fd26_1 : fdOff Try.prog 26 1 = some 1 := by kernel_rfl
theorem fd26_2 : fdOff Try.prog 26 2 = some 2 := by kernel_rfl
theorem fd26_3 : fdOff Try.prog 26 3 = some 3 := by kernel_rfl
theorem fd26_4 : fdOff Try.prog 26 4 = some 4 := by kernel_rfl
theorem fd26_5 : fdOff Try.prog 26 5 = some 5 := by kernel_rfl
theorem fd26_6 : fdOff Try.prog 26 6 = some 6 := by kernel_rfl
theorem fd26_7 : fdOff Try.prog 26 7 = some 7 := by kernel_rfl
theorem fd26_8 : fdOff Try.prog 26 8 = some 8 := by kernel_rfl
theorem fd26_9 : fdOff Try.prog 26 9 = some 9 := by kernel_rfl
theorem st26 : stTy Try.prog 26 = some ([.int .i64 0, .int .i64 0, .int .i64 0, .int .i64 0, .int .i64 0, .slice none 0 0, .slice none 0 0, .slice none 0 0, .slice none 0 0, .slice none 0 0, .bool false], [(0, 1), (1, 1), (2, 1), (3, 1), (4, 1), (5, 1), (6, 1), (7, 1), (8, 1), (9, 1), (10, 1)]) := by kernel_rfl
theorem st35 : stTy Try.prog 35 = some ([.int .i64 0, .int .i64 0, .slice none 0 0], [(0, 1), (1, 1), (2, 1)]) := by kernel_rfl
theorem ty22 : tySz Try.prog 22 = some (1, false) := by kernel_rfl
theorem ty24 : tySz Try.prog 24 = some (1, false) := by kernel_rfl
theorem ty26 : tySz Try.prog 26 = some (11, true) := by kernel_rfl
theorem zr26 : zeroOf Try.prog 26 = some (.agg #[.int .i64 0, .int .i64 0, .int .i64 0, .int .i64 0, .int .i64 0, .slice none 0 0, .slice none 0 0, .slice none 0 0, .slice none 0 0, .slice none 0 0, .bool false]) := by kernel_rfl
theorem slices_Min_walk (a0_x : List Int) (w : World) {v0 : Value} (h0 : R (hpOf w) a0_x [v0]) {r : Int} (H : slices_Min a0_x = some r) : Calls Try.prog 51 #[v0] w fun e w' => e = .returned (.int .i64 r) ∧ Ext w w' := by
 have hm0 := R_max h0
 obtain ⟨p0, c0, rfl⟩ := R_form h0
 unfold slices_Min at H
 refine T.enter (args := [_]) (S := Sat w []) Try.func51 rfl rfl (Sat.start w) ?_
 refine T.seq fun K1 hK1 => ?_
 refine T.region ?_
 refine RS.p (Pu.assign rfl) rfl rfl ?_
 refine RS.nil (hK1 _ _ ?_)
 refine T.seq fun K2 hK2 => ?_
 refine T.seq fun K3 hK3 => ?_
 refine T.region ?_
 refine RS.p (Pu.move rfl) rfl rfl ?_
 refine RS.p (Pu.lenSl sl23 rfl) rfl rfl ?_
 refine RS.p (Pu.bin rfl rfl rfl) rfl rfl ?_
 refine RS.nil (hK3 _ _ ?_)
 refine T.joinE (σ := Unit) (γ := Unit) H (fun s => s) [(0, _)] ⟨rfl, trivial⟩ (fun _ _ => []) (fun _ _ => Sat w []) ?_ ?_
 ·rintro ⟨⟩ ⟨⟩ H
  try dsimp only [Ex.then] at H
  refine Cont.conseq (fr' := [(0, _)]) ?_ ⟨rfl, trivial⟩ (fun _ s => s)
  refine id (hK2 _ _ ?_)
  refine T.seq fun K4 hK4 => ?_
  refine T.region ?_
  refine RS.p (Pu.move rfl) rfl rfl ?_
  obtain ⟨g2, H⟩ := gdE H
  obtain ⟨bl3, ol4, rfl⟩ := R_ptr h0 (ne_of_pos (pos_of g2))
  refine RS.p (Pu.indexSl sl23 rfl rfl g2) rfl rfl ?_
  refine RS.q (Qt.ld0 (α := Int) (Rd.base h0) ty3 rfl rfl g2 (by rintro _ _ rfl; rfl)) rfl rfl ?_
  refine RS.p (Pu.assign rfl) rfl rfl ?_
  refine RS.nil (hK4 _ _ (T.conseq (fr' := [(0, _), (3, _)]) ?_ ⟨rfl, rfl, trivial⟩ (fun _ s => s)))
  refine T.seq fun K5 hK5 => ?_
  refine T.seq fun K6 hK6 => ?_
  refine T.region ?_
  refine RS.p (Pu.assign rfl) rfl rfl ?_
  refine RS.nil (hK6 _ _ ?_)
  refine T.joinE (σ := Int) (γ := Unit) H (fun s => s) [] trivial (fun v6 _ => [(3, .int .i64 v6)]) (fun v6 _ => Sat w []) ?_ ?_
  ·rintro v6 ⟨⟩ H
   try dsimp only [Ex.then] at H
   refine Cont.conseq (fr' := [(3, _)]) ?_ ⟨rfl, trivial⟩ (fun _ s => s)
   refine id (hK5 _ _ ?_)
   refine T.seq fun K7 hK7 => ?_
   refine T.region ?_
   refine RS.p (Pu.move rfl) rfl rfl ?_
   refine RS.p (Pu.assign rfl) rfl rfl ?_
   refine RS.nil (hK7 _ _ ?_)
   obtain rfl := Option.some.inj H
   refine T.rt (Cont.ret1 rfl rfl fun w' s => ?_)
   exact ⟨rfl, s.ext⟩
  ·intro z5 hz5 HX5 hJ5
   refine T.block ?_
   refine T.loopA (γ := Unit) hz5 [(0, _)] (fun (v7, v8) _ => [(3, .int .i64 v7), (4, .int .i64 v8)]) (fun (v7, v8) _ => Sat w []) () ⟨rfl, trivial⟩ ⟨rfl, rfl, trivial⟩ (fun w s => s) ?_
   rintro ⟨v7, v8⟩ ⟨⟩ y9 H hd5 KL5 hL5
   try dsimp only [Ex.then] at H
   refine T.conseq (fr' := [(3, _), (4, _), (0, _)]) ?_ ⟨rfl, rfl, rfl, trivial⟩ (fun _ s => s)
   refine T.seq fun K8 hK8 => ?_
   refine T.seq fun K9 hK9 => ?_
   refine T.region ?_
   refine RS.p (Pu.move rfl) rfl rfl ?_
   refine RS.p (Pu.move rfl) rfl rfl ?_
   refine RS.p (Pu.lenSl sl23 rfl) rfl rfl ?_
   refine RS.p (Pu.bin rfl rfl rfl) rfl rfl ?_
   refine RS.nil (hK9 _ _ ?_)
   refine T.condP rfl (fun hc10 => ?_) (fun hc10 => ?_)
   ·have H := ifT hc10 H
    refine T.skip (hK8 _ _ (T.conseq (fr' := [(0, _), (3, _), (4, _)]) ?_ ⟨rfl, rfl, rfl, trivial⟩ (fun _ s => s)))
    refine T.seq fun K10 hK10 => ?_
    refine T.block ?_
    refine T.region ?_
    refine RS.p (Pu.move rfl) rfl rfl ?_
    refine RS.p (Pu.move rfl) rfl rfl ?_
    refine RS.p (Pu.move rfl) rfl rfl ?_
    obtain ⟨g11, H⟩ := gdE H
    refine RS.p (Pu.indexSl sl23 rfl rfl g11) rfl rfl ?_
    refine RS.q (Qt.ld0 (α := Int) (Rd.base h0) ty3 rfl rfl g11 (by rintro _ _ rfl; rfl)) rfl rfl ?_
    refine RS.p (Pu.minI rfl rfl) rfl rfl ?_
    refine RS.p (Pu.assign rfl) rfl rfl ?_
    refine RS.nil (hK10 _ _ (T.conseq (fr' := [(0, _), (3, _), (4, _)]) ?_ ⟨rfl, rfl, rfl, trivial⟩ (fun _ s => s)))
    refine T.region ?_
    refine RS.p (Pu.move rfl) rfl rfl ?_
    obtain ⟨g12, H⟩ := gdE H
    refine RS.p (Pu.addS rfl rfl g12) rfl rfl ?_
    refine RS.p (Pu.assign rfl) rfl rfl ?_
    refine RS.nil (hL5 _ _ ((min v7 (gi a0_x v8)), (v8 + 1)) () H ⟨rfl, trivial⟩ ⟨rfl, rfl, trivial⟩ (fun w s => s))
   ·have H := ifF hc10 H
    obtain rfl := hd5 _ H
    refine T.xt (hJ5 _ _ v7 () HX5 trivial ⟨rfl, trivial⟩ (fun w s => s))
 ·intro z1 H HX1 hJ1
  refine T.condP rfl (fun hc13 => ?_) (fun hc13 => ?_)
  ·have H := ifT hc13 H
   refine T.conseq (fr' := [(0, _)]) ?_ ⟨rfl, trivial⟩ (fun _ s => s)
   exact nomatch H
  ·have H := ifF hc13 H
   obtain rfl := Option.some.inj H
   refine T.skip (hJ1 _ _ () () HX1 ⟨rfl, trivial⟩ trivial (fun w s => s))
theorem slices_Max_walk (a0_x : List Int) (w : World) {v0 : Value} (h0 : R (hpOf w) a0_x [v0]) {r : Int} (H : slices_Max a0_x = some r) : Calls Try.prog 52 #[v0] w fun e w' => e = .returned (.int .i64 r) ∧ Ext w w' := by
 have hm0 := R_max h0
 obtain ⟨p0, c0, rfl⟩ := R_form h0
 unfold slices_Max at H
 refine T.enter (args := [_]) (S := Sat w []) Try.func52 rfl rfl (Sat.start w) ?_
 refine T.seq fun K1 hK1 => ?_
 refine T.region ?_
 refine RS.p (Pu.assign rfl) rfl rfl ?_
 refine RS.nil (hK1 _ _ ?_)
 refine T.seq fun K2 hK2 => ?_
 refine T.seq fun K3 hK3 => ?_
 refine T.region ?_
 refine RS.p (Pu.move rfl) rfl rfl ?_
 refine RS.p (Pu.lenSl sl23 rfl) rfl rfl ?_
 refine RS.p (Pu.bin rfl rfl rfl) rfl rfl ?_
 refine RS.nil (hK3 _ _ ?_)
 refine T.joinE (σ := Unit) (γ := Unit) H (fun s => s) [(0, _)] ⟨rfl, trivial⟩ (fun _ _ => []) (fun _ _ => Sat w []) ?_ ?_
 ·rintro ⟨⟩ ⟨⟩ H
  try dsimp only [Ex.then] at H
  refine Cont.conseq (fr' := [(0, _)]) ?_ ⟨rfl, trivial⟩ (fun _ s => s)
  refine id (hK2 _ _ ?_)
  refine T.seq fun K4 hK4 => ?_
  refine T.region ?_
  refine RS.p (Pu.move rfl) rfl rfl ?_
  obtain ⟨g2, H⟩ := gdE H
  obtain ⟨bl3, ol4, rfl⟩ := R_ptr h0 (ne_of_pos (pos_of g2))
  refine RS.p (Pu.indexSl sl23 rfl rfl g2) rfl rfl ?_
  refine RS.q (Qt.ld0 (α := Int) (Rd.base h0) ty3 rfl rfl g2 (by rintro _ _ rfl; rfl)) rfl rfl ?_
  refine RS.p (Pu.assign rfl) rfl rfl ?_
  refine RS.nil (hK4 _ _ (T.conseq (fr' := [(0, _), (3, _)]) ?_ ⟨rfl, rfl, trivial⟩ (fun _ s => s)))
  refine T.seq fun K5 hK5 => ?_
  refine T.seq fun K6 hK6 => ?_
  refine T.region ?_
  refine RS.p (Pu.assign rfl) rfl rfl ?_
  refine RS.nil (hK6 _ _ ?_)
  refine T.joinE (σ := Int) (γ := Unit) H (fun s => s) [] trivial (fun v6 _ => [(3, .int .i64 v6)]) (fun v6 _ => Sat w []) ?_ ?_
  ·rintro v6 ⟨⟩ H
   try dsimp only [Ex.then] at H
   refine Cont.conseq (fr' := [(3, _)]) ?_ ⟨rfl, trivial⟩ (fun _ s => s)
   refine id (hK5 _ _ ?_)
   refine T.seq fun K7 hK7 => ?_
   refine T.region ?_
   refine RS.p (Pu.move rfl) rfl rfl ?_
   refine RS.p (Pu.assign rfl) rfl rfl ?_
   refine RS.nil (hK7 _ _ ?_)
   obtain rfl := Option.some.inj H
   refine T.rt (Cont.ret1 rfl rfl fun w' s => ?_)
   exact ⟨rfl, s.ext⟩
  ·intro z5 hz5 HX5 hJ5
   refine T.block ?_
   refine T.loopA (γ := Unit) hz5 [(0, _)] (fun (v7, v8) _ => [(3, .int .i64 v7), (4, .int .i64 v8)]) (fun (v7, v8) _ => Sat w []) () ⟨rfl, trivial⟩ ⟨rfl, rfl, trivial⟩ (fun w s => s) ?_
   rintro ⟨v7, v8⟩ ⟨⟩ y9 H hd5 KL5 hL5
   try dsimp only [Ex.then] at H
   refine T.conseq (fr' := [(3, _), (4, _), (0, _)]) ?_ ⟨rfl, rfl, rfl, trivial⟩ (fun _ s => s)
   refine T.seq fun K8 hK8 => ?_
   refine T.seq fun K9 hK9 => ?_
   refine T.region ?_
   refine RS.p (Pu.move rfl) rfl rfl ?_
   refine RS.p (Pu.move rfl) rfl rfl ?_
   refine RS.p (Pu.lenSl sl23 rfl) rfl rfl ?_
   refine RS.p (Pu.bin rfl rfl rfl) rfl rfl ?_
   refine RS.nil (hK9 _ _ ?_)
   refine T.condP rfl (fun hc10 => ?_) (fun hc10 => ?_)
   ·have H := ifT hc10 H
    refine T.skip (hK8 _ _ (T.conseq (fr' := [(0, _), (3, _), (4, _)]) ?_ ⟨rfl, rfl, rfl, trivial⟩ (fun _ s => s)))
    refine T.seq fun K10 hK10 => ?_
    refine T.block ?_
    refine T.region ?_
    refine RS.p (Pu.move rfl) rfl rfl ?_
    refine RS.p (Pu.move rfl) rfl rfl ?_
    refine RS.p (Pu.move rfl) rfl rfl ?_
    obtain ⟨g11, H⟩ := gdE H
    refine RS.p (Pu.indexSl sl23 rfl rfl g11) rfl rfl ?_
    refine RS.q (Qt.ld0 (α := Int) (Rd.base h0) ty3 rfl rfl g11 (by rintro _ _ rfl; rfl)) rfl rfl ?_
    refine RS.p (Pu.maxI rfl rfl) rfl rfl ?_
    refine RS.p (Pu.assign rfl) rfl rfl ?_
    refine RS.nil (hK10 _ _ (T.conseq (fr' := [(0, _), (3, _), (4, _)]) ?_ ⟨rfl, rfl, rfl, trivial⟩ (fun _ s => s)))
    refine T.region ?_
    refine RS.p (Pu.move rfl) rfl rfl ?_
    obtain ⟨g12, H⟩ := gdE H
    refine RS.p (Pu.addS rfl rfl g12) rfl rfl ?_
    refine RS.p (Pu.assign rfl) rfl rfl ?_
    refine RS.nil (hL5 _ _ ((max v7 (gi a0_x v8)), (v8 + 1)) () H ⟨rfl, trivial⟩ ⟨rfl, rfl, trivial⟩ (fun w s => s))
   ·have H := ifF hc10 H
    obtain rfl := hd5 _ H
    refine T.xt (hJ5 _ _ v7 () HX5 trivial ⟨rfl, trivial⟩ (fun w s => s))
 ·intro z1 H HX1 hJ1
  refine T.condP rfl (fun hc13 => ?_) (fun hc13 => ?_)
  ·have H := ifT hc13 H
   refine T.conseq (fr' := [(0, _)]) ?_ ⟨rfl, trivial⟩ (fun _ s => s)
   exact nomatch H
  ·have H := ifF hc13 H
   obtain rfl := Option.some.inj H
   refine T.skip (hJ1 _ _ () () HX1 ⟨rfl, trivial⟩ trivial (fun w s => s))
theorem peer_counts_walk (a0_p : Per) (a1_l : List Int) (w : World) {v0 v1 v2 v3 v4 v5 : Value} (h0 : R (hpOf w) a0_p.mine [v0]) (h1 : R (hpOf w) a0_p.inputs [v1]) (h2 : R (hpOf w) a0_p.has [v2]) (h3 : R (hpOf w) a0_p.acked [v3]) (h4 : R (hpOf w) a0_p.hashes [v4]) (h5 : R (hpOf w) a1_l [v5]) {r : Bool} (H : peer_counts a0_p a1_l = some r) : Calls Try.prog 50 #[.agg #[.int .i64 a0_p.id, .int .i64 a0_p.players, .int .i64 a0_p.delay, .int .i64 a0_p.turn, .int .i64 a0_p.said, v0, v1, v2, v3, v4, .bool a0_p.split], v5] w fun e w' => e = .returned (.bool r) ∧ Ext w w' := by
 have hm0 := R_max h0
 obtain ⟨p0, c0, rfl⟩ := R_form h0
 have hm1 := R_max h1
 obtain ⟨p1, c1, rfl⟩ := R_form h1
 have hm2 := R_max h2
 obtain ⟨p2, c2, rfl⟩ := R_form h2
 have hm3 := R_max h3
 obtain ⟨p3, c3, rfl⟩ := R_form h3
 have hm4 := R_max h4
 obtain ⟨p4, c4, rfl⟩ := R_form h4
 have hm5 := R_max h5
 obtain ⟨p5, c5, rfl⟩ := R_form h5
 unfold peer_counts at H
 refine T.enter (args := [_, _]) (S := Sat w []) Try.func50 rfl rfl (Sat.start w) ?_
 refine T.seq fun K1 hK1 => ?_
 refine T.region ?_
 refine RS.solid (Sd.box (cs := [_, _, _, _, _, _, _, _, _, _, _]) rfl rfl) rfl rfl fun b1 => ?_
 refine RS.p (Pu.assign rfl) rfl rfl ?_
 refine RS.nil (hK1 _ _ ?_)
 refine T.seq fun K2 hK2 => ?_
 refine T.seq fun K3 hK3 => ?_
 refine T.region ?_
 refine RS.p (Pu.move rfl) rfl rfl ?_
 refine RS.p (Pu.lenSl sl23 rfl) rfl rfl ?_
 refine RS.p (Pu.move rfl) rfl rfl ?_
 refine RS.nil (hK3 _ _ ?_)
 refine T.joinE (σ := Unit) (γ := Unit) H Ex.go [(1, _), (2, _)] ⟨rfl, rfl, trivial⟩ (fun _ _ => []) (fun _ _ => Sat w [blk b1 [.int .i64 a0_p.id, .int .i64 a0_p.players, .int .i64 a0_p.delay, .int .i64 a0_p.turn, .int .i64 a0_p.said, .slice p0 a0_p.mine.length c0, .slice p1 a0_p.inputs.length c1, .slice p2 a0_p.has.length c2, .slice p3 a0_p.acked.length c3, .slice p4 a0_p.hashes.length c4, .bool a0_p.split] 26]) ?_ ?_
 ·rintro ⟨⟩ ⟨⟩ H
  try dsimp only [Ex.then] at H
  refine Cont.conseq (fr' := [(1, _), (2, _)]) ?_ ⟨rfl, rfl, trivial⟩ (fun _ s => s)
  refine id (hK2 _ _ ?_)
  refine T.seq fun K4 hK4 => ?_
  refine T.drawn (fun _ => True) [(0, .pu), (1, .pu), (2, .pu), (3, .rd), (4, .pu), (5, .pu), (6, .pu), (7, .pu), (8, .rd), (9, .pu), (10, .pu), (11, .rd), (12, .pu), (13, .rd), (14, .pu), (15, .pu), (16, .pu)] mixed (ClE.sat _ _) (by kernel_rfl) ?_
  refine RD.p (fun _ _ => trivial) rfl (Pu.move rfl) rfl rfl ?_
  refine RD.p (fun _ _ => trivial) rfl (Pu.lenSl sl23 rfl) rfl rfl ?_
  refine RD.p (fun _ _ => trivial) rfl (Pu.fieldAddr fd26_1 rfl) rfl rfl ?_
  refine RD.q (fun _ _ => trivial) rfl (Qt.ldB 0 ty3 rfl rfl rfl) rfl rfl ?_
  refine RD.p (fun _ _ => trivial) rfl (Pu.bin rfl rfl rfl) rfl rfl ?_
  refine RD.p (fun _ _ => trivial) rfl (Pu.move rfl) rfl rfl ?_
  obtain ⟨g5, H⟩ := gdE H
  obtain ⟨g6, H⟩ := gdE H
  refine RD.joinV 10 45 (.bool (decide (((a1_l.length : Int) = a0_p.players) ∧ ((gi a1_l (a0_p.id - 1)) = a0_p.said)))) [] trivial ?_ ?_
  ·refine RD.p (fun _ _ => trivial) rfl (Pu.assign rfl) rfl rfl ?_
   refine RD.nil (hK4 _ _ ?_)
   obtain rfl := Option.some.inj H
   refine T.rt (Cont.ret1 rfl rfl fun w' s => ?_)
   exact ⟨rfl, s.ext⟩
  ·intro hJ4
   refine RD.splitP 35 rfl (fun hc3 => ?_) (fun hc3 => ?_)
   ·refine RD.p (fun _ _ => trivial) rfl (Pu.move rfl) rfl rfl ?_
    refine RD.p (fun _ _ => trivial) rfl (Pu.fieldAddr fd26_0 rfl) rfl rfl ?_
    refine RD.q (fun _ _ => trivial) rfl (Qt.ldB 0 ty3 rfl rfl rfl) rfl rfl ?_
    refine RD.p (fun _ _ => trivial) rfl (Pu.subS rfl rfl (g5 hc3)) rfl rfl ?_
    obtain ⟨bl7, ol8, rfl⟩ := R_ptr h5 (ne_of_pos (pos_of (g6 hc3)))
    refine RD.p (fun _ _ => trivial) rfl (Pu.indexSl sl23 rfl rfl (g6 hc3)) rfl rfl ?_
    refine RD.q (fun _ _ => trivial) rfl (Qt.ld0 (α := Int) (Rd.base h5) ty3 rfl rfl (g6 hc3) (by rintro _ _ rfl; rfl)) rfl rfl ?_
    refine RD.p (fun _ _ => trivial) rfl (Pu.fieldAddr fd26_4 rfl) rfl rfl ?_
    refine RD.q (fun _ _ => trivial) rfl (Qt.ldB 0 ty3 rfl rfl rfl) rfl rfl ?_
    refine RD.p (fun _ _ => trivial) rfl (Pu.bin rfl rfl rfl) rfl rfl ?_
    refine RD.p (fun _ _ => trivial) rfl (Pu.pickT rfl rfl) rfl rfl ?_
    exact hJ4 _ ⟨dAndT hc3, trivial⟩
   ·refine RD.no (fun _ _ => trivial) rfl rfl rfl (.inl rfl) ?_
    refine RD.no (fun _ _ => trivial) rfl rfl rfl (.inl rfl) ?_
    refine RD.no (fun _ _ => trivial) rfl rfl rfl (.inr (.inr rfl)) ?_
    refine RD.no (fun _ _ => trivial) rfl rfl rfl (.inl rfl) ?_
    refine RD.no (fun _ _ => trivial) rfl rfl rfl (.inl rfl) ?_
    refine RD.no (fun _ _ => trivial) rfl rfl rfl (.inr (.inr rfl)) ?_
    refine RD.no (fun _ _ => trivial) rfl rfl rfl (.inl rfl) ?_
    refine RD.no (fun _ _ => trivial) rfl rfl rfl (.inr (.inr rfl)) ?_
    refine RD.no (fun _ _ => trivial) rfl rfl rfl (.inl rfl) ?_
    refine RD.p (fun _ _ => trivial) rfl (Pu.pickF rfl rfl) rfl rfl ?_
    exact hJ4 _ ⟨dAndF hc3, trivial⟩
 ·intro z2 hz2 HX2 hJ2
  refine T.block ?_
  refine T.loopA (γ := Unit) hz2 [(1, _), (2, _), (7, _), (8, _)] (fun v9 _ => [(9, .int .i64 v9)]) (fun v9 _ => Sat w [blk b1 [.int .i64 a0_p.id, .int .i64 a0_p.players, .int .i64 a0_p.delay, .int .i64 a0_p.turn, .int .i64 a0_p.said, .slice p0 a0_p.mine.length c0, .slice p1 a0_p.inputs.length c1, .slice p2 a0_p.has.length c2, .slice p3 a0_p.acked.length c3, .slice p4 a0_p.hashes.length c4, .bool a0_p.split] 26]) () ⟨rfl, rfl, rfl, rfl, trivial⟩ ⟨rfl, trivial⟩ (fun w s => s) ?_
  rintro v9 ⟨⟩ y10 H hd2 KL2 hL2
  try dsimp only [Ex.then] at H
  refine T.conseq (fr' := [(9, _), (1, _), (2, _), (7, _), (8, _)]) ?_ ⟨rfl, rfl, rfl, rfl, rfl, trivial⟩ (fun _ s => s)
  refine T.seq fun K5 hK5 => ?_
  refine T.region ?_
  refine RS.p (Pu.bin rfl rfl rfl) rfl rfl ?_
  refine RS.nil (hK5 _ _ ?_)
  refine T.seq fun K6 hK6 => ?_
  refine T.condP rfl (fun hc11 => ?_) (fun hc11 => ?_)
  ·have H := ifT hc11 H
   refine T.skip (hK6 _ _ ?_)
   refine T.seq fun K7 hK7 => ?_
   refine T.block ?_
   refine T.seq fun K8 hK8 => ?_
   refine T.region ?_
   obtain ⟨g12, H⟩ := gdE H
   obtain ⟨bl13, ol14, rfl⟩ := R_ptr h5 (ne_of_pos (pos_of g12))
   refine RS.p (Pu.indexSl sl23 rfl rfl g12) rfl rfl ?_
   refine RS.q (Qt.ld0 (α := Int) (Rd.base h5) ty3 rfl rfl g12 (by rintro _ _ rfl; rfl)) rfl rfl ?_
   refine RS.p (Pu.assign rfl) rfl rfl ?_
   refine RS.nil (hK8 _ _ (T.conseq (fr' := [(1, _), (2, _), (6, _), (7, _), (8, _), (9, _)]) ?_ ⟨rfl, rfl, rfl, rfl, rfl, rfl, trivial⟩ (fun _ s => s)))
   refine T.seq fun K9 hK9 => ?_
   refine T.region ?_
   refine RS.p (Pu.move rfl) rfl rfl ?_
   refine RS.p (Pu.fieldAddr fd26_2 rfl) rfl rfl ?_
   refine RS.q (Qt.ldB 0 ty3 rfl rfl rfl) rfl rfl ?_
   obtain ⟨g15, H⟩ := gdE H
   refine RS.p (Pu.subS rfl rfl g15) rfl rfl ?_
   refine RS.p (Pu.bin rfl rfl rfl) rfl rfl ?_
   refine RS.p (Pu.move rfl) rfl rfl ?_
   obtain ⟨g18, H⟩ := gdE H
   refine RS.joinV 6 24 (.bool (decide (((gi a1_l v9) < (a0_p.delay - 1)) ∨ ((a0_p.turn + 16) < (gi a1_l v9))))) [(1, _), (2, _), (6, _), (7, _), (8, _), (9, _)] ⟨rfl, rfl, rfl, rfl, rfl, rfl, trivial⟩ ?_ ?_
   ·refine RS.p (Pu.move rfl) rfl rfl ?_
    refine RS.joinV 3 28 (.bool (decide ((((gi a1_l v9) < (a0_p.delay - 1)) ∨ ((a0_p.turn + 16) < (gi a1_l v9))) ∨ (1099511627776 < (gi a1_l v9))))) [(1, _), (2, _), (7, _), (8, _), (9, _)] ⟨rfl, rfl, rfl, rfl, rfl, trivial⟩ ?_ ?_
    ·refine RS.nil (hK9 _ _ ?_)
     refine T.condP rfl (fun hc21 => ?_) (fun hc21 => ?_)
     ·have H := ifT hc21 H
      refine T.conseq (fr' := []) ?_ trivial (fun _ s => s)
      refine T.seq fun K10 hK10 => ?_
      refine T.region ?_
      refine RS.p (Pu.assign rfl) rfl rfl ?_
      refine RS.nil (hK10 _ _ ?_)
      obtain rfl := hd2 _ H
      have H := HX2
      obtain rfl := Option.some.inj H
      refine T.rt (Cont.ret1 rfl rfl fun w' s => ?_)
      exact ⟨rfl, s.ext⟩
     ·have H := ifF hc21 H
      refine T.skip (hK7 _ _ ?_)
      refine T.region ?_
      obtain ⟨g22, H⟩ := gdE H
      refine RS.p (Pu.addS rfl rfl g22) rfl rfl ?_
      refine RS.p (Pu.move rfl) rfl rfl ?_
      refine RS.nil (hL2 _ _ (v9 + 1) () H ⟨rfl, rfl, rfl, rfl, trivial⟩ ⟨rfl, trivial⟩ (fun w s => s))
    ·intro hJ20
     refine RS.splitP 25 rfl (fun hc19 => ?_) (fun hc19 => ?_)
     ·refine RS.no rfl rfl ?_
      refine RS.no rfl rfl ?_
      refine RS.p (Pu.pickT rfl rfl) rfl rfl ?_
      exact hJ20 _ _ ⟨dOrT hc19, rfl, rfl, rfl, rfl, rfl, trivial⟩ (fun w s => s)
     ·refine RS.p (Pu.move rfl) rfl rfl ?_
      refine RS.p (Pu.bin rfl rfl rfl) rfl rfl ?_
      refine RS.p (Pu.pickF rfl rfl) rfl rfl ?_
      exact hJ20 _ _ ⟨dOrF hc19, rfl, rfl, rfl, rfl, rfl, trivial⟩ (fun w s => s)
   ·intro hJ17
    refine RS.splitP 18 rfl (fun hc16 => ?_) (fun hc16 => ?_)
    ·refine RS.no rfl rfl ?_
     refine RS.no rfl rfl ?_
     refine RS.no rfl rfl ?_
     refine RS.no rfl rfl ?_
     refine RS.no rfl rfl ?_
     refine RS.p (Pu.pickT rfl rfl) rfl rfl ?_
     exact hJ17 _ _ ⟨dOrT hc16, rfl, rfl, rfl, rfl, rfl, rfl, trivial⟩ (fun w s => s)
    ·refine RS.p (Pu.move rfl) rfl rfl ?_
     refine RS.p (Pu.fieldAddr fd26_3 rfl) rfl rfl ?_
     refine RS.q (Qt.ldB 0 ty3 rfl rfl rfl) rfl rfl ?_
     refine RS.p (Pu.addS rfl rfl (g18 hc16)) rfl rfl ?_
     refine RS.p (Pu.bin rfl rfl rfl) rfl rfl ?_
     refine RS.p (Pu.pickF rfl rfl) rfl rfl ?_
     exact hJ17 _ _ ⟨dOrF hc16, rfl, rfl, rfl, rfl, rfl, rfl, trivial⟩ (fun w s => s)
  ·have H := ifF hc11 H
   obtain rfl := hd2 _ H
   refine T.xt (hJ2 _ _ () () HX2 ⟨rfl, rfl, trivial⟩ trivial (fun w s => s))
theorem peer_mine_walk (a0_p : Per) (w : World) {v0 v1 v2 v3 v4 : Value} (h0 : R (hpOf w) a0_p.mine [v0]) (h1 : R (hpOf w) a0_p.inputs [v1]) (h2 : R (hpOf w) a0_p.has [v2]) (h3 : R (hpOf w) a0_p.acked [v3]) (h4 : R (hpOf w) a0_p.hashes [v4]) {r : Bool} (H : peer_mine a0_p = some r) : Calls Try.prog 53 #[.agg #[.int .i64 a0_p.id, .int .i64 a0_p.players, .int .i64 a0_p.delay, .int .i64 a0_p.turn, .int .i64 a0_p.said, v0, v1, v2, v3, v4, .bool a0_p.split]] w fun e w' => e = .returned (.bool r) ∧ Ext w w' := by
 have hm0 := R_max h0
 obtain ⟨p0, c0, rfl⟩ := R_form h0
 have hm1 := R_max h1
 obtain ⟨p1, c1, rfl⟩ := R_form h1
 have hm2 := R_max h2
 obtain ⟨p2, c2, rfl⟩ := R_form h2
 have hm3 := R_max h3
 obtain ⟨p3, c3, rfl⟩ := R_form h3
 have hm4 := R_max h4
 obtain ⟨p4, c4, rfl⟩ := R_form h4
 unfold peer_mine at H
 refine T.enter (args := [_]) (S := Sat w []) Try.func53 rfl rfl (Sat.start w) ?_
 refine T.seq fun K1 hK1 => ?_
 refine T.region ?_
 refine RS.solid (Sd.box (cs := [_, _, _, _, _, _, _, _, _, _, _]) rfl rfl) rfl rfl fun b1 => ?_
 refine RS.p (Pu.assign rfl) rfl rfl ?_
 refine RS.nil (hK1 _ _ ?_)
 refine T.seq fun K2 hK2 => ?_
 refine T.seq fun K3 hK3 => ?_
 refine T.drawn (fun _ => True) [(0, .pu), (1, .rd), (2, .pu), (3, .pu), (4, .rd), (5, .pu), (6, .rd), (7, .rd), (8, .pu), (9, .pu)] mixed (ClE.sat _ _) (by kernel_rfl) ?_
 refine RD.p (fun _ _ => trivial) rfl (Pu.fieldAddr fd26_5 rfl) rfl rfl ?_
 refine RD.q (fun _ _ => trivial) rfl (Qt.ldB 0 ty22 rfl rfl rfl) rfl rfl ?_
 refine RD.p (fun _ _ => trivial) rfl (Pu.lenSl sl22 rfl) rfl rfl ?_
 refine RD.p (fun _ _ => trivial) rfl (Pu.fieldAddr fd26_4 rfl) rfl rfl ?_
 refine RD.q (fun _ _ => trivial) rfl (Qt.ldB 0 ty3 rfl rfl rfl) rfl rfl ?_
 refine RD.p (fun _ _ => trivial) rfl (Pu.fieldAddr fd26_8 rfl) rfl rfl ?_
 refine RD.q (fun _ _ => trivial) rfl (Qt.ldB 0 ty23 rfl rfl rfl) rfl rfl ?_
 obtain ⟨x2, hx2, H⟩ := bindE H
 refine RD.q (fun _ _ => trivial) rfl (Qt.call (vs := [.slice p3 a0_p.acked.length c3]) ent51 rfl fun w s => slices_Min_walk a0_p.acked w ((Rd.base h3) w s) hx2) rfl rfl ?_
 obtain ⟨g3, H⟩ := gdE H
 refine RD.p (fun _ _ => trivial) rfl (Pu.subS rfl rfl g3) rfl rfl ?_
 refine RD.p (fun _ _ => trivial) rfl (Pu.bin rfl rfl rfl) rfl rfl ?_
 refine RD.nil (hK3 _ _ ?_)
 refine T.condP rfl (fun hc4 => ?_) (fun hc4 => ?_)
 ·have H := ifT hc4 H
  refine T.conseq (fr' := []) ?_ trivial (fun _ s => s)
  refine T.seq fun K4 hK4 => ?_
  refine T.region ?_
  refine RS.p (Pu.assign rfl) rfl rfl ?_
  refine RS.nil (hK4 _ _ ?_)
  obtain rfl := Option.some.inj H
  refine T.rt (Cont.ret1 rfl rfl fun w' s => ?_)
  exact ⟨rfl, s.ext⟩
 ·have H := ifF hc4 H
  refine T.skip (hK2 _ _ (T.conseq (fr' := [(1, _)]) ?_ ⟨rfl, trivial⟩ (fun _ s => s)))
  refine T.seq fun K5 hK5 => ?_
  refine T.seq fun K6 hK6 => ?_
  refine T.region ?_
  refine RS.p (Pu.fieldAddr fd26_5 rfl) rfl rfl ?_
  refine RS.q (Qt.ldB 0 ty22 rfl rfl rfl) rfl rfl ?_
  refine RS.p (Pu.lenSl sl22 rfl) rfl rfl ?_
  refine RS.p (Pu.move rfl) rfl rfl ?_
  refine RS.nil (hK6 _ _ ?_)
  refine T.joinE (σ := Unit) (γ := Unit) H Ex.go [] trivial (fun _ _ => []) (fun _ _ => Sat w [blk b1 [.int .i64 a0_p.id, .int .i64 a0_p.players, .int .i64 a0_p.delay, .int .i64 a0_p.turn, .int .i64 a0_p.said, .slice p0 a0_p.mine.length c0, .slice p1 a0_p.inputs.length c1, .slice p2 a0_p.has.length c2, .slice p3 a0_p.acked.length c3, .slice p4 a0_p.hashes.length c4, .bool a0_p.split] 26]) ?_ ?_
  ·rintro ⟨⟩ ⟨⟩ H
   try dsimp only [Ex.then] at H
   refine Cont.conseq (fr' := []) ?_ trivial (fun _ s => s)
   refine id (hK5 _ _ ?_)
   refine T.seq fun K7 hK7 => ?_
   refine T.region ?_
   refine RS.p (Pu.assign rfl) rfl rfl ?_
   refine RS.nil (hK7 _ _ ?_)
   obtain rfl := Option.some.inj H
   refine T.rt (Cont.ret1 rfl rfl fun w' s => ?_)
   exact ⟨rfl, s.ext⟩
  ·intro z5 hz5 HX5 hJ5
   refine T.block ?_
   refine T.loopA (γ := Unit) hz5 [(1, _), (16, _), (17, _)] (fun v6 _ => [(18, .int .i64 v6)]) (fun v6 _ => Sat w [blk b1 [.int .i64 a0_p.id, .int .i64 a0_p.players, .int .i64 a0_p.delay, .int .i64 a0_p.turn, .int .i64 a0_p.said, .slice p0 a0_p.mine.length c0, .slice p1 a0_p.inputs.length c1, .slice p2 a0_p.has.length c2, .slice p3 a0_p.acked.length c3, .slice p4 a0_p.hashes.length c4, .bool a0_p.split] 26]) () ⟨rfl, rfl, rfl, trivial⟩ ⟨rfl, trivial⟩ (fun w s => s) ?_
   rintro v6 ⟨⟩ y7 H hd5 KL5 hL5
   try dsimp only [Ex.then] at H
   refine T.conseq (fr' := [(18, _), (1, _), (16, _), (17, _)]) ?_ ⟨rfl, rfl, rfl, rfl, trivial⟩ (fun _ s => s)
   refine T.seq fun K8 hK8 => ?_
   refine T.region ?_
   refine RS.p (Pu.bin rfl rfl rfl) rfl rfl ?_
   refine RS.nil (hK8 _ _ ?_)
   refine T.seq fun K9 hK9 => ?_
   refine T.condP rfl (fun hc8 => ?_) (fun hc8 => ?_)
   ·have H := ifT hc8 H
    refine T.skip (hK9 _ _ ?_)
    refine T.seq fun K10 hK10 => ?_
    refine T.block ?_
    refine T.seq fun K11 hK11 => ?_
    refine T.region ?_
    refine RS.p (Pu.move rfl) rfl rfl ?_
    obtain ⟨g9, H⟩ := gdE H
    obtain ⟨bl10, ol11, rfl⟩ := R_ptr h0 (ne_of_pos (pos_of g9))
    refine RS.p (Pu.indexSl sl22 rfl rfl g9) rfl rfl ?_
    obtain ⟨c12, hc13, ha14⟩ := R_el (α := Inp) h0 g9
    obtain ⟨u15, rfl, hu15⟩ := hc13
    obtain ⟨p16, cc17, rfl⟩ := R_form hu15
    refine RS.q (Qt.ldZ (cs := [_, _, _]) ty35 rfl ha14 Held.base rfl) rfl rfl ?_
    refine RS.solid (Sd.alloc zr35 rfl) rfl rfl fun b18 => ?_
    refine RS.p (Pu.assign rfl) rfl rfl ?_
    refine RS.solid (Sd.stB (cs' := [_, _, _]) 1 ty35 rfl rfl rfl rfl rfl rfl rfl rfl) rfl rfl fun _ => ?_
    refine RS.nil (hK11 _ _ (T.conseq (fr' := [(1, _), (3, _), (4, _), (16, _), (17, _), (18, _)]) ?_ ⟨rfl, rfl, rfl, rfl, rfl, rfl, trivial⟩ (fun _ s => s)))
    refine T.seq fun K12 hK12 => ?_
    refine T.region ?_
    refine RS.q (Qt.ldBA (us := [_, _, _]) 1 ty35 rfl rfl rfl rfl) rfl rfl ?_
    obtain ⟨x19, hx19, H⟩ := bindE H
    refine RS.q (Qt.call (vs := [.agg #[.int .i64 ((gi a0_p.mine v6).turn), .int .i64 ((gi a0_p.mine v6).player), .slice p16 ((gi a0_p.mine v6).commands).length cc17]]) ent58 rfl fun w s => turns_May_walk (gi a0_p.mine v6) w ((Rd.base hu15) w s) hx19) rfl rfl ?_
    refine RS.p (Pu.not rfl) rfl rfl ?_
    refine RS.p (Pu.move rfl) rfl rfl ?_
    refine RS.joinV 6 32 (.bool (decide (((!x19) = true) ∨ (¬ (gi a0_p.mine v6).player = a0_p.id)))) [(1, _), (3, _), (4, _), (16, _), (17, _), (18, _)] ⟨rfl, rfl, rfl, rfl, rfl, rfl, trivial⟩ ?_ ?_
    ·refine RS.p (Pu.move rfl) rfl rfl ?_
     obtain ⟨g24, H⟩ := gdE H
     obtain ⟨g25, H⟩ := gdE H
     obtain ⟨g26, H⟩ := gdE H
     refine RS.joinV 13 46 (.bool (decide ((((!x19) = true) ∨ (¬ (gi a0_p.mine v6).player = a0_p.id)) ∨ (¬ (gi a0_p.mine v6).turn = (((a0_p.said - (a0_p.mine.length : Int)) + 1) + v6))))) [(1, _), (16, _), (17, _), (18, _)] ⟨rfl, rfl, rfl, rfl, trivial⟩ ?_ ?_
     ·refine RS.nil (hK12 _ _ ?_)
      refine T.condP rfl (fun hc27 => ?_) (fun hc27 => ?_)
      ·have H := ifT hc27 H
       refine T.conseq (fr' := []) ?_ trivial (fun _ s => s)
       refine T.seq fun K13 hK13 => ?_
       refine T.region ?_
       refine RS.p (Pu.assign rfl) rfl rfl ?_
       refine RS.nil (hK13 _ _ ?_)
       obtain rfl := hd5 _ H
       have H := HX5
       obtain rfl := Option.some.inj H
       refine T.rt (Cont.ret1 rfl rfl fun w' s => ?_)
       exact ⟨rfl, s.ext⟩
      ·have H := ifF hc27 H
       refine T.skip (hK10 _ _ ?_)
       refine T.region ?_
       obtain ⟨g28, H⟩ := gdE H
       refine RS.p (Pu.addS rfl rfl g28) rfl rfl ?_
       refine RS.p (Pu.move rfl) rfl rfl ?_
       refine RS.nil (hL5 _ _ (v6 + 1) () H ⟨rfl, rfl, rfl, trivial⟩ ⟨rfl, trivial⟩ (fun w s => s.pick [0] (by decide) rfl))
     ·intro hJ23
      refine RS.splitP 33 rfl (fun hc22 => ?_) (fun hc22 => ?_)
      ·refine RS.no rfl rfl ?_
       refine RS.no rfl rfl ?_
       refine RS.no rfl rfl ?_
       refine RS.no rfl rfl ?_
       refine RS.no rfl rfl ?_
       refine RS.no rfl rfl ?_
       refine RS.no rfl rfl ?_
       refine RS.no rfl rfl ?_
       refine RS.no rfl rfl ?_
       refine RS.no rfl rfl ?_
       refine RS.no rfl rfl ?_
       refine RS.no rfl rfl ?_
       refine RS.p (Pu.pickT rfl rfl) rfl rfl ?_
       exact hJ23 _ _ ⟨dOrT hc22, rfl, rfl, rfl, rfl, trivial⟩ (fun w s => s)
      ·refine RS.p (Pu.fieldAddr fd35_0 rfl) rfl rfl ?_
       refine RS.q (Qt.ldB 1 ty3 rfl rfl rfl) rfl rfl ?_
       refine RS.p (Pu.fieldAddr fd26_4 rfl) rfl rfl ?_
       refine RS.q (Qt.ldB 0 ty3 rfl rfl rfl) rfl rfl ?_
       refine RS.p (Pu.fieldAddr fd26_5 rfl) rfl rfl ?_
       refine RS.q (Qt.ldB 0 ty22 rfl rfl rfl) rfl rfl ?_
       refine RS.p (Pu.lenSl sl22 rfl) rfl rfl ?_
       refine RS.p (Pu.subS rfl rfl (g24 hc22)) rfl rfl ?_
       refine RS.p (Pu.addS rfl rfl (g25 hc22)) rfl rfl ?_
       refine RS.p (Pu.move rfl) rfl rfl ?_
       refine RS.p (Pu.addS rfl rfl (g26 hc22)) rfl rfl ?_
       refine RS.p (Pu.bin rfl rfl rfl) rfl rfl ?_
       refine RS.p (Pu.pickF rfl rfl) rfl rfl ?_
       exact hJ23 _ _ ⟨dOrF hc22, rfl, rfl, rfl, rfl, trivial⟩ (fun w s => s)
    ·intro hJ21
     refine RS.split 26 rfl (fun hc20 => ?_) (fun hc20 => ?_)
     ·refine RS.no rfl rfl ?_
      refine RS.no rfl rfl ?_
      refine RS.no rfl rfl ?_
      refine RS.no rfl rfl ?_
      refine RS.no rfl rfl ?_
      refine RS.p (Pu.pickT rfl rfl) rfl rfl ?_
      exact hJ21 _ _ ⟨dOrT hc20, rfl, rfl, rfl, rfl, rfl, rfl, trivial⟩ (fun w s => s)
     ·refine RS.p (Pu.fieldAddr fd35_1 rfl) rfl rfl ?_
      refine RS.q (Qt.ldB 1 ty3 rfl rfl rfl) rfl rfl ?_
      refine RS.p (Pu.fieldAddr fd26_0 rfl) rfl rfl ?_
      refine RS.q (Qt.ldB 0 ty3 rfl rfl rfl) rfl rfl ?_
      refine RS.p (Pu.bin rfl rfl rfl) rfl rfl ?_
      refine RS.p (Pu.pickF rfl rfl) rfl rfl ?_
      exact hJ21 _ _ ⟨dOrF (bne_of hc20), rfl, rfl, rfl, rfl, rfl, rfl, trivial⟩ (fun w s => s)
   ·have H := ifF hc8 H
    obtain rfl := hd5 _ H
    refine T.xt (hJ5 _ _ () () HX5 trivial trivial (fun w s => s))
theorem peer_inputs_walk (a0_p : Per) (w : World) {v0 v1 v2 v3 v4 : Value} (h0 : R (hpOf w) a0_p.mine [v0]) (h1 : R (hpOf w) a0_p.inputs [v1]) (h2 : R (hpOf w) a0_p.has [v2]) (h3 : R (hpOf w) a0_p.acked [v3]) (h4 : R (hpOf w) a0_p.hashes [v4]) {r : Bool} (H : peer_inputs a0_p = some r) : Calls Try.prog 55 #[.agg #[.int .i64 a0_p.id, .int .i64 a0_p.players, .int .i64 a0_p.delay, .int .i64 a0_p.turn, .int .i64 a0_p.said, v0, v1, v2, v3, v4, .bool a0_p.split]] w fun e w' => e = .returned (.bool r) ∧ Ext w w' := by
 have hm0 := R_max h0
 obtain ⟨p0, c0, rfl⟩ := R_form h0
 have hm1 := R_max h1
 obtain ⟨p1, c1, rfl⟩ := R_form h1
 have hm2 := R_max h2
 obtain ⟨p2, c2, rfl⟩ := R_form h2
 have hm3 := R_max h3
 obtain ⟨p3, c3, rfl⟩ := R_form h3
 have hm4 := R_max h4
 obtain ⟨p4, c4, rfl⟩ := R_form h4
 unfold peer_inputs at H
 refine T.enter (args := [_]) (S := Sat w []) Try.func55 rfl rfl (Sat.start w) ?_
 refine T.seq fun K1 hK1 => ?_
 refine T.region ?_
 refine RS.solid (Sd.box (cs := [_, _, _, _, _, _, _, _, _, _, _]) rfl rfl) rfl rfl fun b1 => ?_
 refine RS.p (Pu.assign rfl) rfl rfl ?_
 refine RS.nil (hK1 _ _ ?_)
 refine T.seq fun K2 hK2 => ?_
 refine T.seq fun K3 hK3 => ?_
 refine T.region ?_
 refine RS.p (Pu.fieldAddr fd26_6 rfl) rfl rfl ?_
 refine RS.q (Qt.ldB 0 ty22 rfl rfl rfl) rfl rfl ?_
 refine RS.p (Pu.lenSl sl22 rfl) rfl rfl ?_
 refine RS.p (Pu.move rfl) rfl rfl ?_
 refine RS.nil (hK3 _ _ (T.conseq (fr' := [(1, _), (6, _), (7, _), (8, _)]) ?_ ⟨rfl, rfl, rfl, rfl, trivial⟩ (fun _ s => s)))
 refine T.joinE (σ := Unit) (γ := Unit) H Ex.go [] trivial (fun _ _ => []) (fun _ _ => Sat w [blk b1 [.int .i64 a0_p.id, .int .i64 a0_p.players, .int .i64 a0_p.delay, .int .i64 a0_p.turn, .int .i64 a0_p.said, .slice p0 a0_p.mine.length c0, .slice p1 a0_p.inputs.length c1, .slice p2 a0_p.has.length c2, .slice p3 a0_p.acked.length c3, .slice p4 a0_p.hashes.length c4, .bool a0_p.split] 26]) ?_ ?_
 ·rintro ⟨⟩ ⟨⟩ H
  try dsimp only [Ex.then] at H
  refine Cont.conseq (fr' := []) ?_ trivial (fun _ s => s)
  refine id (hK2 _ _ ?_)
  refine T.seq fun K4 hK4 => ?_
  refine T.region ?_
  refine RS.p (Pu.assign rfl) rfl rfl ?_
  refine RS.nil (hK4 _ _ ?_)
  obtain rfl := Option.some.inj H
  refine T.rt (Cont.ret1 rfl rfl fun w' s => ?_)
  exact ⟨rfl, s.ext⟩
 ·intro z2 hz2 HX2 hJ2
  refine T.block ?_
  refine T.loopA (γ := Unit) hz2 [(1, _), (6, _), (7, _)] (fun v3 _ => [(8, .int .i64 v3)]) (fun v3 _ => Sat w [blk b1 [.int .i64 a0_p.id, .int .i64 a0_p.players, .int .i64 a0_p.delay, .int .i64 a0_p.turn, .int .i64 a0_p.said, .slice p0 a0_p.mine.length c0, .slice p1 a0_p.inputs.length c1, .slice p2 a0_p.has.length c2, .slice p3 a0_p.acked.length c3, .slice p4 a0_p.hashes.length c4, .bool a0_p.split] 26]) () ⟨rfl, rfl, rfl, trivial⟩ ⟨rfl, trivial⟩ (fun w s => s) ?_
  rintro v3 ⟨⟩ y4 H hd2 KL2 hL2
  try dsimp only [Ex.then] at H
  refine T.conseq (fr' := [(8, _), (1, _), (6, _), (7, _)]) ?_ ⟨rfl, rfl, rfl, rfl, trivial⟩ (fun _ s => s)
  refine T.seq fun K5 hK5 => ?_
  refine T.region ?_
  refine RS.p (Pu.bin rfl rfl rfl) rfl rfl ?_
  refine RS.nil (hK5 _ _ ?_)
  refine T.seq fun K6 hK6 => ?_
  refine T.condP rfl (fun hc5 => ?_) (fun hc5 => ?_)
  ·have H := ifT hc5 H
   refine T.skip (hK6 _ _ ?_)
   refine T.seq fun K7 hK7 => ?_
   refine T.block ?_
   refine T.seq fun K8 hK8 => ?_
   refine T.region ?_
   obtain ⟨g6, H⟩ := gdE H
   obtain ⟨bl7, ol8, rfl⟩ := R_ptr h1 (ne_of_pos (pos_of g6))
   refine RS.p (Pu.indexSl sl22 rfl rfl g6) rfl rfl ?_
   obtain ⟨c9, hc10, ha11⟩ := R_el (α := Inp) h1 g6
   obtain ⟨u12, rfl, hu12⟩ := hc10
   obtain ⟨p13, cc14, rfl⟩ := R_form hu12
   refine RS.q (Qt.ldZ (cs := [_, _, _]) ty35 rfl ha11 Held.base rfl) rfl rfl ?_
   refine RS.solid (Sd.alloc zr35 rfl) rfl rfl fun b15 => ?_
   refine RS.solid (Sd.stB (cs' := [_, _, _]) 1 ty35 rfl rfl rfl rfl rfl rfl rfl rfl) rfl rfl fun _ => ?_
   refine RS.nil (hK8 _ _ (T.conseq (fr' := [(1, _), (4, _), (6, _), (7, _), (8, _)]) ?_ ⟨rfl, rfl, rfl, rfl, rfl, trivial⟩ (fun _ s => s)))
   refine T.seq fun K9 hK9 => ?_
   refine T.drawn (fun _ => True) [(0, .pu), (1, .rd), (2, .pu), (3, .rd), (4, .pu), (5, .pu), (6, .pu), (7, .rd), (8, .pu), (9, .rd), (10, .pu), (11, .pu), (12, .pu), (13, .pu), (14, .rd), (15, .pu), (16, .rd), (17, .pu), (18, .rd), (19, .pu), (20, .pu), (21, .rd), (22, .pu), (23, .pu)] mixed (ClE.sat _ _) (by kernel_rfl) ?_
   refine RD.p (fun _ _ => trivial) rfl (Pu.fieldAddr fd35_0 rfl) rfl rfl ?_
   refine RD.q (fun _ _ => trivial) rfl (Qt.ldB 1 ty3 rfl rfl rfl) rfl rfl ?_
   refine RD.p (fun _ _ => trivial) rfl (Pu.fieldAddr fd26_3 rfl) rfl rfl ?_
   refine RD.q (fun _ _ => trivial) rfl (Qt.ldB 0 ty3 rfl rfl rfl) rfl rfl ?_
   refine RD.p (fun _ _ => trivial) rfl (Pu.bin rfl rfl rfl) rfl rfl ?_
   refine RD.p (fun _ _ => trivial) rfl (Pu.move rfl) rfl rfl ?_
   refine RD.joinV 6 23 (.bool (decide (((gi a0_p.inputs v3).turn < a0_p.turn) ∨ (a0_p.players < (gi a0_p.inputs v3).player)))) [(1, _), (4, _), (6, _), (7, _), (8, _)] ⟨rfl, rfl, rfl, rfl, rfl, trivial⟩ ?_ ?_
   ·refine RD.p (fun _ _ => trivial) rfl (Pu.move rfl) rfl rfl ?_
    obtain ⟨g20, H⟩ := gdE H
    obtain ⟨g21, H⟩ := gdE H
    refine RD.joinV 11 35 (.bool (decide ((((gi a0_p.inputs v3).turn < a0_p.turn) ∨ (a0_p.players < (gi a0_p.inputs v3).player)) ∨ ((gi a0_p.has (((gi a0_p.inputs v3).player) - 1)) < (gi a0_p.inputs v3).turn)))) [(1, _), (6, _), (7, _), (8, _)] ⟨rfl, rfl, rfl, rfl, trivial⟩ ?_ ?_
    ·refine RD.nil (hK9 _ _ ?_)
     refine T.condP rfl (fun hc22 => ?_) (fun hc22 => ?_)
     ·have H := ifT hc22 H
      refine T.conseq (fr' := []) ?_ trivial (fun _ s => s)
      refine T.seq fun K10 hK10 => ?_
      refine T.region ?_
      refine RS.p (Pu.assign rfl) rfl rfl ?_
      refine RS.nil (hK10 _ _ ?_)
      obtain rfl := hd2 _ H
      have H := HX2
      obtain rfl := Option.some.inj H
      refine T.rt (Cont.ret1 rfl rfl fun w' s => ?_)
      exact ⟨rfl, s.ext⟩
     ·have H := ifF hc22 H
      refine T.skip (hK7 _ _ ?_)
      refine T.region ?_
      obtain ⟨g23, H⟩ := gdE H
      refine RS.p (Pu.addS rfl rfl g23) rfl rfl ?_
      refine RS.p (Pu.move rfl) rfl rfl ?_
      refine RS.nil (hL2 _ _ (v3 + 1) () H ⟨rfl, rfl, rfl, trivial⟩ ⟨rfl, trivial⟩ (fun w s => s.pick [0] (by decide) rfl))
    ·intro hJ19
     refine RD.splitP 24 rfl (fun hc18 => ?_) (fun hc18 => ?_)
     ·refine RD.no (fun _ _ => trivial) rfl rfl rfl (.inl rfl) ?_
      refine RD.no (fun _ _ => trivial) rfl rfl rfl (.inr (.inr rfl)) ?_
      refine RD.no (fun _ _ => trivial) rfl rfl rfl (.inl rfl) ?_
      refine RD.no (fun _ _ => trivial) rfl rfl rfl (.inr (.inr rfl)) ?_
      refine RD.no (fun _ _ => trivial) rfl rfl rfl (.inl rfl) ?_
      refine RD.no (fun _ _ => trivial) rfl rfl rfl (.inr (.inr rfl)) ?_
      refine RD.no (fun _ _ => trivial) rfl rfl rfl (.inl rfl) ?_
      refine RD.no (fun _ _ => trivial) rfl rfl rfl (.inl rfl) ?_
      refine RD.no (fun _ _ => trivial) rfl rfl rfl (.inr (.inr rfl)) ?_
      refine RD.no (fun _ _ => trivial) rfl rfl rfl (.inl rfl) ?_
      refine RD.p (fun _ _ => trivial) rfl (Pu.pickT rfl rfl) rfl rfl ?_
      exact hJ19 _ ⟨dOrT hc18, rfl, rfl, rfl, rfl, trivial⟩
     ·refine RD.p (fun _ _ => trivial) rfl (Pu.fieldAddr fd35_0 rfl) rfl rfl ?_
      refine RD.q (fun _ _ => trivial) rfl (Qt.ldB 1 ty3 rfl rfl rfl) rfl rfl ?_
      refine RD.p (fun _ _ => trivial) rfl (Pu.fieldAddr fd26_7 rfl) rfl rfl ?_
      refine RD.q (fun _ _ => trivial) rfl (Qt.ldB 0 ty23 rfl rfl rfl) rfl rfl ?_
      refine RD.p (fun _ _ => trivial) rfl (Pu.fieldAddr fd35_1 rfl) rfl rfl ?_
      refine RD.q (fun _ _ => trivial) rfl (Qt.ldB 1 ty3 rfl rfl rfl) rfl rfl ?_
      refine RD.p (fun _ _ => trivial) rfl (Pu.subS rfl rfl (g20 hc18)) rfl rfl ?_
      obtain ⟨bl24, ol25, rfl⟩ := R_ptr h2 (ne_of_pos (pos_of (g21 hc18)))
      refine RD.p (fun _ _ => trivial) rfl (Pu.indexSl sl23 rfl rfl (g21 hc18)) rfl rfl ?_
      refine RD.q (fun _ _ => trivial) rfl (Qt.ld0 (α := Int) (Rd.base h2) ty3 rfl rfl (g21 hc18) (by rintro _ _ rfl; rfl)) rfl rfl ?_
      refine RD.p (fun _ _ => trivial) rfl (Pu.bin rfl rfl rfl) rfl rfl ?_
      refine RD.p (fun _ _ => trivial) rfl (Pu.pickF rfl rfl) rfl rfl ?_
      exact hJ19 _ ⟨dOrF hc18, rfl, rfl, rfl, rfl, trivial⟩
   ·intro hJ17
    refine RD.splitP 17 rfl (fun hc16 => ?_) (fun hc16 => ?_)
    ·refine RD.no (fun _ _ => trivial) rfl rfl rfl (.inl rfl) ?_
     refine RD.no (fun _ _ => trivial) rfl rfl rfl (.inr (.inr rfl)) ?_
     refine RD.no (fun _ _ => trivial) rfl rfl rfl (.inl rfl) ?_
     refine RD.no (fun _ _ => trivial) rfl rfl rfl (.inr (.inr rfl)) ?_
     refine RD.no (fun _ _ => trivial) rfl rfl rfl (.inl rfl) ?_
     refine RD.p (fun _ _ => trivial) rfl (Pu.pickT rfl rfl) rfl rfl ?_
     exact hJ17 _ ⟨dOrT hc16, rfl, rfl, rfl, rfl, rfl, trivial⟩
    ·refine RD.p (fun _ _ => trivial) rfl (Pu.fieldAddr fd35_1 rfl) rfl rfl ?_
     refine RD.q (fun _ _ => trivial) rfl (Qt.ldB 1 ty3 rfl rfl rfl) rfl rfl ?_
     refine RD.p (fun _ _ => trivial) rfl (Pu.fieldAddr fd26_1 rfl) rfl rfl ?_
     refine RD.q (fun _ _ => trivial) rfl (Qt.ldB 0 ty3 rfl rfl rfl) rfl rfl ?_
     refine RD.p (fun _ _ => trivial) rfl (Pu.bin rfl rfl rfl) rfl rfl ?_
     refine RD.p (fun _ _ => trivial) rfl (Pu.pickF rfl rfl) rfl rfl ?_
     exact hJ17 _ ⟨dOrF hc16, rfl, rfl, rfl, rfl, rfl, trivial⟩
  ·have H := ifF hc5 H
   obtain rfl := hd2 _ H
   refine T.xt (hJ2 _ _ () () HX2 trivial trivial (fun w s => s))
theorem peer_May_walk (a0_p : Per) (w : World) {v0 v1 v2 v3 v4 : Value} (h0 : R (hpOf w) a0_p.mine [v0]) (h1 : R (hpOf w) a0_p.inputs [v1]) (h2 : R (hpOf w) a0_p.has [v2]) (h3 : R (hpOf w) a0_p.acked [v3]) (h4 : R (hpOf w) a0_p.hashes [v4]) {r : Bool} (H : peer_May a0_p = some r) : Calls Try.prog 30 #[.agg #[.int .i64 a0_p.id, .int .i64 a0_p.players, .int .i64 a0_p.delay, .int .i64 a0_p.turn, .int .i64 a0_p.said, v0, v1, v2, v3, v4, .bool a0_p.split]] w fun e w' => e = .returned (.bool r) ∧ Ext w w' := by
 have hm0 := R_max h0
 obtain ⟨p0, c0, rfl⟩ := R_form h0
 have hm1 := R_max h1
 obtain ⟨p1, c1, rfl⟩ := R_form h1
 have hm2 := R_max h2
 obtain ⟨p2, c2, rfl⟩ := R_form h2
 have hm3 := R_max h3
 obtain ⟨p3, c3, rfl⟩ := R_form h3
 have hm4 := R_max h4
 obtain ⟨p4, c4, rfl⟩ := R_form h4
 unfold peer_May at H
 refine T.enter (args := [_]) (S := Sat w []) Try.func30 rfl rfl (Sat.start w) ?_
 refine T.seq fun K1 hK1 => ?_
 refine T.region ?_
 refine RS.solid (Sd.box (cs := [_, _, _, _, _, _, _, _, _, _, _]) rfl rfl) rfl rfl fun b1 => ?_
 refine RS.p (Pu.assign rfl) rfl rfl ?_
 refine RS.nil (hK1 _ _ ?_)
 refine T.seq fun K2 hK2 => ?_
 refine T.seq fun K3 hK3 => ?_
 refine T.region ?_
 refine RS.p (Pu.fieldAddr fd26_1 rfl) rfl rfl ?_
 refine RS.q (Qt.ldB 0 ty3 rfl rfl rfl) rfl rfl ?_
 refine RS.p (Pu.bin rfl rfl rfl) rfl rfl ?_
 refine RS.p (Pu.move rfl) rfl rfl ?_
 refine RS.joinV 4 10 (.bool (decide ((a0_p.players < 1) ∨ (8 < a0_p.players)))) [(1, _)] ⟨rfl, trivial⟩ ?_ ?_
 ·refine RS.p (Pu.move rfl) rfl rfl ?_
  refine RS.joinV 4 15 (.bool (decide (((a0_p.players < 1) ∨ (8 < a0_p.players)) ∨ (a0_p.id < 1)))) [(1, _)] ⟨rfl, trivial⟩ ?_ ?_
  ·refine RS.p (Pu.move rfl) rfl rfl ?_
   refine RS.joinV 6 22 (.bool (decide ((((a0_p.players < 1) ∨ (8 < a0_p.players)) ∨ (a0_p.id < 1)) ∨ (a0_p.players < a0_p.id)))) [(1, _)] ⟨rfl, trivial⟩ ?_ ?_
   ·refine RS.p (Pu.move rfl) rfl rfl ?_
    refine RS.joinV 4 27 (.bool (decide (((((a0_p.players < 1) ∨ (8 < a0_p.players)) ∨ (a0_p.id < 1)) ∨ (a0_p.players < a0_p.id)) ∨ (a0_p.delay < 1)))) [(1, _)] ⟨rfl, trivial⟩ ?_ ?_
    ·refine RS.p (Pu.move rfl) rfl rfl ?_
     refine RS.joinV 4 32 (.bool (decide ((((((a0_p.players < 1) ∨ (8 < a0_p.players)) ∨ (a0_p.id < 1)) ∨ (a0_p.players < a0_p.id)) ∨ (a0_p.delay < 1)) ∨ (8 < a0_p.delay)))) [(1, _)] ⟨rfl, trivial⟩ ?_ ?_
     ·refine RS.p (Pu.move rfl) rfl rfl ?_
      refine RS.joinV 4 37 (.bool (decide (((((((a0_p.players < 1) ∨ (8 < a0_p.players)) ∨ (a0_p.id < 1)) ∨ (a0_p.players < a0_p.id)) ∨ (a0_p.delay < 1)) ∨ (8 < a0_p.delay)) ∨ (a0_p.turn < 0)))) [(1, _)] ⟨rfl, trivial⟩ ?_ ?_
      ·refine RS.p (Pu.move rfl) rfl rfl ?_
       refine RS.joinV 4 42 (.bool (decide ((((((((a0_p.players < 1) ∨ (8 < a0_p.players)) ∨ (a0_p.id < 1)) ∨ (a0_p.players < a0_p.id)) ∨ (a0_p.delay < 1)) ∨ (8 < a0_p.delay)) ∨ (a0_p.turn < 0)) ∨ (1099511627776 < a0_p.turn)))) [(1, _)] ⟨rfl, trivial⟩ ?_ ?_
       ·refine RS.nil (hK3 _ _ ?_)
        refine T.condP rfl (fun hc16 => ?_) (fun hc16 => ?_)
        ·have H := ifT hc16 H
         refine T.seq fun K4 hK4 => ?_
         refine T.region ?_
         refine RS.p (Pu.assign rfl) rfl rfl ?_
         refine RS.nil (hK4 _ _ ?_)
         obtain rfl := Option.some.inj H
         refine T.rt (Cont.ret1 rfl rfl fun w' s => ?_)
         exact ⟨rfl, s.ext⟩
        ·have H := ifF hc16 H
         refine T.skip (hK2 _ _ ?_)
         refine T.seq fun K5 hK5 => ?_
         refine T.seq fun K6 hK6 => ?_
         refine T.region ?_
         refine RS.p (Pu.fieldAddr fd26_4 rfl) rfl rfl ?_
         refine RS.q (Qt.ldB 0 ty3 rfl rfl rfl) rfl rfl ?_
         refine RS.p (Pu.fieldAddr fd26_2 rfl) rfl rfl ?_
         refine RS.q (Qt.ldB 0 ty3 rfl rfl rfl) rfl rfl ?_
         obtain ⟨g17, H⟩ := gdE H
         refine RS.p (Pu.subS rfl rfl g17) rfl rfl ?_
         refine RS.p (Pu.bin rfl rfl rfl) rfl rfl ?_
         refine RS.p (Pu.move rfl) rfl rfl ?_
         obtain ⟨g20, H⟩ := gdE H
         obtain ⟨g21, H⟩ := gdE H
         refine RS.joinV 10 59 (.bool (decide ((a0_p.said < (a0_p.delay - 1)) ∨ (((a0_p.turn + a0_p.delay) - 1) < a0_p.said)))) [(1, _)] ⟨rfl, trivial⟩ ?_ ?_
         ·refine RS.p (Pu.move rfl) rfl rfl ?_
          refine RS.joinV 4 64 (.bool (decide (((a0_p.said < (a0_p.delay - 1)) ∨ (((a0_p.turn + a0_p.delay) - 1) < a0_p.said)) ∨ (1099511627776 < a0_p.said)))) [(1, _)] ⟨rfl, trivial⟩ ?_ ?_
          ·refine RS.p (Pu.move rfl) rfl rfl ?_
           refine RS.joinB H 6 71 (fun b26 => .bool b26) [(1, _)] ⟨rfl, trivial⟩ ?_ ?_
           ·intro b26 H
            refine RS.p (Pu.move rfl) rfl rfl ?_
            refine RS.joinB H 6 78 (fun b29 => .bool b29) [(1, _)] ⟨rfl, trivial⟩ ?_ ?_
            ·intro b29 H
             refine RS.nil (hK6 _ _ ?_)
             refine T.cond rfl (fun hc30 => ?_) (fun hc30 => ?_)
             ·have H := ifT hc30 H
              refine T.seq fun K7 hK7 => ?_
              refine T.region ?_
              refine RS.p (Pu.assign rfl) rfl rfl ?_
              refine RS.nil (hK7 _ _ ?_)
              obtain rfl := Option.some.inj H
              refine T.rt (Cont.ret1 rfl rfl fun w' s => ?_)
              exact ⟨rfl, s.ext⟩
             ·have H := ifB hc30 H
              refine T.skip (hK5 _ _ ?_)
              refine T.seq fun K8 hK8 => ?_
              refine T.seq fun K9 hK9 => ?_
              refine T.drawn (fun _ => True) [(0, .pu), (1, .rd), (2, .rd), (3, .pu), (4, .rd), (5, .pu), (6, .pu), (7, .pu), (8, .pu), (9, .rd), (10, .rd), (11, .pu), (12, .rd), (13, .pu), (14, .pu), (15, .pu), (16, .pu), (17, .rd), (18, .pu), (19, .pu), (20, .pu), (21, .pu), (22, .pu), (23, .rd), (24, .pu), (25, .pu), (26, .rd), (27, .pu), (28, .pu)] mixed (ClE.sat _ _) (by kernel_rfl) ?_
              refine RD.p (fun _ _ => trivial) rfl (Pu.fieldAddr fd26_7 rfl) rfl rfl ?_
              refine RD.q (fun _ _ => trivial) rfl (Qt.ldB 0 ty23 rfl rfl rfl) rfl rfl ?_
              obtain ⟨x31, hx31, H⟩ := bindE H
              refine RD.q (fun _ _ => trivial) rfl (Qt.call (vs := [.slice p2 a0_p.has.length c2]) ent51 rfl fun w s => slices_Min_walk a0_p.has w ((Rd.base h2) w s) hx31) rfl rfl ?_
              refine RD.p (fun _ _ => trivial) rfl (Pu.fieldAddr fd26_3 rfl) rfl rfl ?_
              refine RD.q (fun _ _ => trivial) rfl (Qt.ldB 0 ty3 rfl rfl rfl) rfl rfl ?_
              obtain ⟨g32, H⟩ := gdE H
              refine RD.p (fun _ _ => trivial) rfl (Pu.subS rfl rfl g32) rfl rfl ?_
              refine RD.p (fun _ _ => trivial) rfl (Pu.bin rfl rfl rfl) rfl rfl ?_
              refine RD.p (fun _ _ => trivial) rfl (Pu.move rfl) rfl rfl ?_
              refine RD.joinB H 7 93 (fun b35 => .bool b35) [(1, _)] ⟨rfl, trivial⟩ ?_ ?_
              ·intro b35 H
               refine RD.p (fun _ _ => trivial) rfl (Pu.move rfl) rfl rfl ?_
               refine RD.joinV 5 99 (.bool (decide ((b35 = true) ∨ (16 < (a0_p.hashes.length : Int))))) [(1, _)] ⟨rfl, trivial⟩ ?_ ?_
               ·refine RD.p (fun _ _ => trivial) rfl (Pu.move rfl) rfl rfl ?_
                refine RD.joinV 7 107 (.bool (decide (((b35 = true) ∨ (16 < (a0_p.hashes.length : Int))) ∨ (a0_p.turn < (a0_p.hashes.length : Int))))) [(1, _)] ⟨rfl, trivial⟩ ?_ ?_
                ·refine RD.nil (hK9 _ _ ?_)
                 refine T.condP rfl (fun hc40 => ?_) (fun hc40 => ?_)
                 ·have H := ifT hc40 H
                  refine T.seq fun K10 hK10 => ?_
                  refine T.region ?_
                  refine RS.p (Pu.assign rfl) rfl rfl ?_
                  refine RS.nil (hK10 _ _ ?_)
                  obtain rfl := Option.some.inj H
                  refine T.rt (Cont.ret1 rfl rfl fun w' s => ?_)
                  exact ⟨rfl, s.ext⟩
                 ·have H := ifF hc40 H
                  refine T.skip (hK8 _ _ ?_)
                  refine T.seq fun K11 hK11 => ?_
                  refine T.region ?_
                  refine RS.q (Qt.ldBA (us := [_, _, _, _, _, _, _, _, _, _, _]) 0 ty26 rfl rfl rfl rfl) rfl rfl ?_
                  obtain ⟨x41, hx41, H⟩ := bindE H
                  refine RS.q (Qt.call (vs := [.agg #[.int .i64 a0_p.id, .int .i64 a0_p.players, .int .i64 a0_p.delay, .int .i64 a0_p.turn, .int .i64 a0_p.said, .slice p0 a0_p.mine.length c0, .slice p1 a0_p.inputs.length c1, .slice p2 a0_p.has.length c2, .slice p3 a0_p.acked.length c3, .slice p4 a0_p.hashes.length c4, .bool a0_p.split]]) ent53 rfl fun w s => peer_mine_walk a0_p w ((Rd.base h0) w s) ((Rd.base h1) w s) ((Rd.base h2) w s) ((Rd.base h3) w s) ((Rd.base h4) w s) hx41) rfl rfl ?_
                  refine RS.p (Pu.move rfl) rfl rfl ?_
                  refine RS.joinB H 4 114 (fun b44 => .bool b44) [(1, _)] ⟨rfl, trivial⟩ ?_ ?_
                  ·intro b44 H
                   refine RS.p (Pu.move rfl) rfl rfl ?_
                   refine RS.joinB H 3 118 (fun b47 => .bool b47) [] trivial ?_ ?_
                   ·intro b47 H
                    refine RS.p (Pu.assign rfl) rfl rfl ?_
                    refine RS.nil (hK11 _ _ ?_)
                    obtain rfl := Option.some.inj H
                    refine T.rt (Cont.ret1 rfl rfl fun w' s => ?_)
                    exact ⟨rfl, s.ext⟩
                   ·intro z48 H hJ46
                    refine RS.split 115 rfl (fun hc45 => ?_) (fun hc45 => ?_)
                    ·have H := ifT hc45 H
                     refine RS.q (Qt.ldBA (us := [_, _, _, _, _, _, _, _, _, _, _]) 0 ty26 rfl rfl rfl rfl) rfl rfl ?_
                     obtain ⟨x49, hx49, H⟩ := bindE H
                     refine RS.q (Qt.call (vs := [.agg #[.int .i64 a0_p.id, .int .i64 a0_p.players, .int .i64 a0_p.delay, .int .i64 a0_p.turn, .int .i64 a0_p.said, .slice p0 a0_p.mine.length c0, .slice p1 a0_p.inputs.length c1, .slice p2 a0_p.has.length c2, .slice p3 a0_p.acked.length c3, .slice p4 a0_p.hashes.length c4, .bool a0_p.split]]) ent55 rfl fun w s => peer_inputs_walk a0_p w ((Rd.base h0) w s) ((Rd.base h1) w s) ((Rd.base h2) w s) ((Rd.base h3) w s) ((Rd.base h4) w s) hx49) rfl rfl ?_
                     refine RS.p (Pu.pickT rfl rfl) rfl rfl ?_
                     obtain rfl := Option.some.inj H
                     exact hJ46 _ _ ⟨rfl, trivial⟩ (fun w s => s)
                    ·have H := ifB hc45 H
                     refine RS.no rfl rfl ?_
                     refine RS.no rfl rfl ?_
                     refine RS.p (Pu.pickF rfl rfl) rfl rfl ?_
                     obtain rfl := Option.some.inj H
                     exact hJ46 _ _ ⟨rfl, trivial⟩ (fun w s => s)
                  ·intro z50 H hJ43
                   refine RS.split 110 rfl (fun hc42 => ?_) (fun hc42 => ?_)
                   ·have H := ifT hc42 H
                    refine RS.p (Pu.fieldAddr fd26_6 rfl) rfl rfl ?_
                    refine RS.q (Qt.ldB 0 ty22 rfl rfl rfl) rfl rfl ?_
                    obtain ⟨x51, hx51, H⟩ := bindE H
                    refine RS.q (Qt.call (vs := [.slice p1 a0_p.inputs.length c1]) ent54 rfl fun w s => turns_Rising_walk a0_p.inputs w ((Rd.base h1) w s) hx51) rfl rfl ?_
                    refine RS.p (Pu.pickT rfl rfl) rfl rfl ?_
                    obtain rfl := Option.some.inj H
                    exact hJ43 _ _ ⟨rfl, rfl, trivial⟩ (fun w s => s)
                   ·have H := ifB hc42 H
                    refine RS.no rfl rfl ?_
                    refine RS.no rfl rfl ?_
                    refine RS.no rfl rfl ?_
                    refine RS.p (Pu.pickF rfl rfl) rfl rfl ?_
                    obtain rfl := Option.some.inj H
                    exact hJ43 _ _ ⟨rfl, rfl, trivial⟩ (fun w s => s)
                ·intro hJ39
                 refine RD.splitP 100 rfl (fun hc38 => ?_) (fun hc38 => ?_)
                 ·refine RD.no (fun _ _ => trivial) rfl rfl rfl (.inl rfl) ?_
                  refine RD.no (fun _ _ => trivial) rfl rfl rfl (.inr (.inr rfl)) ?_
                  refine RD.no (fun _ _ => trivial) rfl rfl rfl (.inl rfl) ?_
                  refine RD.no (fun _ _ => trivial) rfl rfl rfl (.inl rfl) ?_
                  refine RD.no (fun _ _ => trivial) rfl rfl rfl (.inr (.inr rfl)) ?_
                  refine RD.no (fun _ _ => trivial) rfl rfl rfl (.inl rfl) ?_
                  refine RD.p (fun _ _ => trivial) rfl (Pu.pickT rfl rfl) rfl rfl ?_
                  exact hJ39 _ ⟨dOrT hc38, rfl, trivial⟩
                 ·refine RD.p (fun _ _ => trivial) rfl (Pu.fieldAddr fd26_9 rfl) rfl rfl ?_
                  refine RD.q (fun _ _ => trivial) rfl (Qt.ldB 0 ty24 rfl rfl rfl) rfl rfl ?_
                  refine RD.p (fun _ _ => trivial) rfl (Pu.lenSl sl24 rfl) rfl rfl ?_
                  refine RD.p (fun _ _ => trivial) rfl (Pu.fieldAddr fd26_3 rfl) rfl rfl ?_
                  refine RD.q (fun _ _ => trivial) rfl (Qt.ldB 0 ty3 rfl rfl rfl) rfl rfl ?_
                  refine RD.p (fun _ _ => trivial) rfl (Pu.bin rfl rfl rfl) rfl rfl ?_
                  refine RD.p (fun _ _ => trivial) rfl (Pu.pickF rfl rfl) rfl rfl ?_
                  exact hJ39 _ ⟨dOrF hc38, rfl, trivial⟩
               ·intro hJ37
                refine RD.split 94 rfl (fun hc36 => ?_) (fun hc36 => ?_)
                ·refine RD.no (fun _ _ => trivial) rfl rfl rfl (.inl rfl) ?_
                 refine RD.no (fun _ _ => trivial) rfl rfl rfl (.inr (.inr rfl)) ?_
                 refine RD.no (fun _ _ => trivial) rfl rfl rfl (.inl rfl) ?_
                 refine RD.no (fun _ _ => trivial) rfl rfl rfl (.inl rfl) ?_
                 refine RD.p (fun _ _ => trivial) rfl (Pu.pickT rfl rfl) rfl rfl ?_
                 exact hJ37 _ ⟨dOrT hc36, rfl, trivial⟩
                ·refine RD.p (fun _ _ => trivial) rfl (Pu.fieldAddr fd26_9 rfl) rfl rfl ?_
                 refine RD.q (fun _ _ => trivial) rfl (Qt.ldB 0 ty24 rfl rfl rfl) rfl rfl ?_
                 refine RD.p (fun _ _ => trivial) rfl (Pu.lenSl sl24 rfl) rfl rfl ?_
                 refine RD.p (fun _ _ => trivial) rfl (Pu.bin rfl rfl rfl) rfl rfl ?_
                 refine RD.p (fun _ _ => trivial) rfl (Pu.pickF rfl rfl) rfl rfl ?_
                 exact hJ37 _ ⟨dOrF (bne_of hc36), rfl, trivial⟩
              ·intro z52 H hJ34
               refine RD.splitP 86 rfl (fun hc33 => ?_) (fun hc33 => ?_)
               ·have H := ifT hc33 H
                refine RD.no (fun _ _ => trivial) rfl rfl rfl (.inl rfl) ?_
                refine RD.no (fun _ _ => trivial) rfl rfl rfl (.inr (.inr rfl)) ?_
                refine RD.no (fun _ _ => trivial) rfl rfl rfl (.inr (.inr rfl)) ?_
                refine RD.no (fun _ _ => trivial) rfl rfl rfl (.inl rfl) ?_
                refine RD.no (fun _ _ => trivial) rfl rfl rfl (.inr (.inr rfl)) ?_
                refine RD.no (fun _ _ => trivial) rfl rfl rfl (.inl rfl) ?_
                refine RD.p (fun _ _ => trivial) rfl (Pu.pickT rfl rfl) rfl rfl ?_
                obtain rfl := Option.some.inj H
                exact hJ34 _ ⟨rfl, rfl, trivial⟩
               ·have H := ifF hc33 H
                refine RD.p (fun _ _ => trivial) rfl (Pu.fieldAddr fd26_8 rfl) rfl rfl ?_
                refine RD.q (fun _ _ => trivial) rfl (Qt.ldB 0 ty23 rfl rfl rfl) rfl rfl ?_
                obtain ⟨x53, hx53, H⟩ := bindE H
                refine RD.q (fun _ _ => trivial) rfl (Qt.call (vs := [.slice p3 a0_p.acked.length c3]) ent52 rfl fun w s => slices_Max_walk a0_p.acked w ((Rd.base h3) w s) hx53) rfl rfl ?_
                refine RD.p (fun _ _ => trivial) rfl (Pu.fieldAddr fd26_4 rfl) rfl rfl ?_
                refine RD.q (fun _ _ => trivial) rfl (Qt.ldB 0 ty3 rfl rfl rfl) rfl rfl ?_
                refine RD.p (fun _ _ => trivial) rfl (Pu.bin rfl rfl rfl) rfl rfl ?_
                refine RD.p (fun _ _ => trivial) rfl (Pu.pickF rfl rfl) rfl rfl ?_
                obtain rfl := Option.some.inj H
                exact hJ34 _ ⟨rfl, rfl, trivial⟩
            ·intro z54 H hJ28
             refine RS.split 72 rfl (fun hc27 => ?_) (fun hc27 => ?_)
             ·have H := ifT hc27 H
              refine RS.no rfl rfl ?_
              refine RS.no rfl rfl ?_
              refine RS.no rfl rfl ?_
              refine RS.no rfl rfl ?_
              refine RS.no rfl rfl ?_
              refine RS.p (Pu.pickT rfl rfl) rfl rfl ?_
              obtain rfl := Option.some.inj H
              exact hJ28 _ _ ⟨rfl, rfl, trivial⟩ (fun w s => s)
             ·have H := ifB hc27 H
              refine RS.q (Qt.ldBA (us := [_, _, _, _, _, _, _, _, _, _, _]) 0 ty26 rfl rfl rfl rfl) rfl rfl ?_
              refine RS.p (Pu.fieldAddr fd26_8 rfl) rfl rfl ?_
              refine RS.q (Qt.ldB 0 ty23 rfl rfl rfl) rfl rfl ?_
              obtain ⟨x55, hx55, H⟩ := bindE H
              refine RS.q (Qt.call (vs := [.agg #[.int .i64 a0_p.id, .int .i64 a0_p.players, .int .i64 a0_p.delay, .int .i64 a0_p.turn, .int .i64 a0_p.said, .slice p0 a0_p.mine.length c0, .slice p1 a0_p.inputs.length c1, .slice p2 a0_p.has.length c2, .slice p3 a0_p.acked.length c3, .slice p4 a0_p.hashes.length c4, .bool a0_p.split], .slice p3 a0_p.acked.length c3]) ent50 rfl fun w s => peer_counts_walk a0_p a0_p.acked w ((Rd.base h0) w s) ((Rd.base h1) w s) ((Rd.base h2) w s) ((Rd.base h3) w s) ((Rd.base h4) w s) ((Rd.base h3) w s) hx55) rfl rfl ?_
              refine RS.p (Pu.not rfl) rfl rfl ?_
              refine RS.p (Pu.pickF rfl rfl) rfl rfl ?_
              obtain rfl := Option.some.inj H
              exact hJ28 _ _ ⟨rfl, rfl, trivial⟩ (fun w s => s)
           ·intro z56 H hJ25
            refine RS.splitP 65 rfl (fun hc24 => ?_) (fun hc24 => ?_)
            ·have H := ifT hc24 H
             refine RS.no rfl rfl ?_
             refine RS.no rfl rfl ?_
             refine RS.no rfl rfl ?_
             refine RS.no rfl rfl ?_
             refine RS.no rfl rfl ?_
             refine RS.p (Pu.pickT rfl rfl) rfl rfl ?_
             obtain rfl := Option.some.inj H
             exact hJ25 _ _ ⟨rfl, rfl, trivial⟩ (fun w s => s)
            ·have H := ifF hc24 H
             refine RS.q (Qt.ldBA (us := [_, _, _, _, _, _, _, _, _, _, _]) 0 ty26 rfl rfl rfl rfl) rfl rfl ?_
             refine RS.p (Pu.fieldAddr fd26_7 rfl) rfl rfl ?_
             refine RS.q (Qt.ldB 0 ty23 rfl rfl rfl) rfl rfl ?_
             obtain ⟨x57, hx57, H⟩ := bindE H
             refine RS.q (Qt.call (vs := [.agg #[.int .i64 a0_p.id, .int .i64 a0_p.players, .int .i64 a0_p.delay, .int .i64 a0_p.turn, .int .i64 a0_p.said, .slice p0 a0_p.mine.length c0, .slice p1 a0_p.inputs.length c1, .slice p2 a0_p.has.length c2, .slice p3 a0_p.acked.length c3, .slice p4 a0_p.hashes.length c4, .bool a0_p.split], .slice p2 a0_p.has.length c2]) ent50 rfl fun w s => peer_counts_walk a0_p a0_p.has w ((Rd.base h0) w s) ((Rd.base h1) w s) ((Rd.base h2) w s) ((Rd.base h3) w s) ((Rd.base h4) w s) ((Rd.base h2) w s) hx57) rfl rfl ?_
             refine RS.p (Pu.not rfl) rfl rfl ?_
             refine RS.p (Pu.pickF rfl rfl) rfl rfl ?_
             obtain rfl := Option.some.inj H
             exact hJ25 _ _ ⟨rfl, rfl, trivial⟩ (fun w s => s)
          ·intro hJ23
           refine RS.splitP 60 rfl (fun hc22 => ?_) (fun hc22 => ?_)
           ·refine RS.no rfl rfl ?_
            refine RS.no rfl rfl ?_
            refine RS.no rfl rfl ?_
            refine RS.p (Pu.pickT rfl rfl) rfl rfl ?_
            exact hJ23 _ _ ⟨dOrT hc22, rfl, trivial⟩ (fun w s => s)
           ·refine RS.p (Pu.fieldAddr fd26_4 rfl) rfl rfl ?_
            refine RS.q (Qt.ldB 0 ty3 rfl rfl rfl) rfl rfl ?_
            refine RS.p (Pu.bin rfl rfl rfl) rfl rfl ?_
            refine RS.p (Pu.pickF rfl rfl) rfl rfl ?_
            exact hJ23 _ _ ⟨dOrF hc22, rfl, trivial⟩ (fun w s => s)
         ·intro hJ19
          refine RS.splitP 49 rfl (fun hc18 => ?_) (fun hc18 => ?_)
          ·refine RS.no rfl rfl ?_
           refine RS.no rfl rfl ?_
           refine RS.no rfl rfl ?_
           refine RS.no rfl rfl ?_
           refine RS.no rfl rfl ?_
           refine RS.no rfl rfl ?_
           refine RS.no rfl rfl ?_
           refine RS.no rfl rfl ?_
           refine RS.no rfl rfl ?_
           refine RS.p (Pu.pickT rfl rfl) rfl rfl ?_
           exact hJ19 _ _ ⟨dOrT hc18, rfl, trivial⟩ (fun w s => s)
          ·refine RS.p (Pu.fieldAddr fd26_4 rfl) rfl rfl ?_
           refine RS.q (Qt.ldB 0 ty3 rfl rfl rfl) rfl rfl ?_
           refine RS.p (Pu.fieldAddr fd26_3 rfl) rfl rfl ?_
           refine RS.q (Qt.ldB 0 ty3 rfl rfl rfl) rfl rfl ?_
           refine RS.p (Pu.fieldAddr fd26_2 rfl) rfl rfl ?_
           refine RS.q (Qt.ldB 0 ty3 rfl rfl rfl) rfl rfl ?_
           refine RS.p (Pu.addS rfl rfl (g20 hc18)) rfl rfl ?_
           refine RS.p (Pu.subS rfl rfl (g21 hc18)) rfl rfl ?_
           refine RS.p (Pu.bin rfl rfl rfl) rfl rfl ?_
           refine RS.p (Pu.pickF rfl rfl) rfl rfl ?_
           exact hJ19 _ _ ⟨dOrF hc18, rfl, trivial⟩ (fun w s => s)
       ·intro hJ15
        refine RS.splitP 38 rfl (fun hc14 => ?_) (fun hc14 => ?_)
        ·refine RS.no rfl rfl ?_
         refine RS.no rfl rfl ?_
         refine RS.no rfl rfl ?_
         refine RS.p (Pu.pickT rfl rfl) rfl rfl ?_
         exact hJ15 _ _ ⟨dOrT hc14, rfl, trivial⟩ (fun w s => s)
        ·refine RS.p (Pu.fieldAddr fd26_3 rfl) rfl rfl ?_
         refine RS.q (Qt.ldB 0 ty3 rfl rfl rfl) rfl rfl ?_
         refine RS.p (Pu.bin rfl rfl rfl) rfl rfl ?_
         refine RS.p (Pu.pickF rfl rfl) rfl rfl ?_
         exact hJ15 _ _ ⟨dOrF hc14, rfl, trivial⟩ (fun w s => s)
      ·intro hJ13
       refine RS.splitP 33 rfl (fun hc12 => ?_) (fun hc12 => ?_)
       ·refine RS.no rfl rfl ?_
        refine RS.no rfl rfl ?_
        refine RS.no rfl rfl ?_
        refine RS.p (Pu.pickT rfl rfl) rfl rfl ?_
        exact hJ13 _ _ ⟨dOrT hc12, rfl, trivial⟩ (fun w s => s)
       ·refine RS.p (Pu.fieldAddr fd26_3 rfl) rfl rfl ?_
        refine RS.q (Qt.ldB 0 ty3 rfl rfl rfl) rfl rfl ?_
        refine RS.p (Pu.bin rfl rfl rfl) rfl rfl ?_
        refine RS.p (Pu.pickF rfl rfl) rfl rfl ?_
        exact hJ13 _ _ ⟨dOrF hc12, rfl, trivial⟩ (fun w s => s)
     ·intro hJ11
      refine RS.splitP 28 rfl (fun hc10 => ?_) (fun hc10 => ?_)
      ·refine RS.no rfl rfl ?_
       refine RS.no rfl rfl ?_
       refine RS.no rfl rfl ?_
       refine RS.p (Pu.pickT rfl rfl) rfl rfl ?_
       exact hJ11 _ _ ⟨dOrT hc10, rfl, trivial⟩ (fun w s => s)
      ·refine RS.p (Pu.fieldAddr fd26_2 rfl) rfl rfl ?_
       refine RS.q (Qt.ldB 0 ty3 rfl rfl rfl) rfl rfl ?_
       refine RS.p (Pu.bin rfl rfl rfl) rfl rfl ?_
       refine RS.p (Pu.pickF rfl rfl) rfl rfl ?_
       exact hJ11 _ _ ⟨dOrF hc10, rfl, trivial⟩ (fun w s => s)
    ·intro hJ9
     refine RS.splitP 23 rfl (fun hc8 => ?_) (fun hc8 => ?_)
     ·refine RS.no rfl rfl ?_
      refine RS.no rfl rfl ?_
      refine RS.no rfl rfl ?_
      refine RS.p (Pu.pickT rfl rfl) rfl rfl ?_
      exact hJ9 _ _ ⟨dOrT hc8, rfl, trivial⟩ (fun w s => s)
     ·refine RS.p (Pu.fieldAddr fd26_2 rfl) rfl rfl ?_
      refine RS.q (Qt.ldB 0 ty3 rfl rfl rfl) rfl rfl ?_
      refine RS.p (Pu.bin rfl rfl rfl) rfl rfl ?_
      refine RS.p (Pu.pickF rfl rfl) rfl rfl ?_
      exact hJ9 _ _ ⟨dOrF hc8, rfl, trivial⟩ (fun w s => s)
   ·intro hJ7
    refine RS.splitP 16 rfl (fun hc6 => ?_) (fun hc6 => ?_)
    ·refine RS.no rfl rfl ?_
     refine RS.no rfl rfl ?_
     refine RS.no rfl rfl ?_
     refine RS.no rfl rfl ?_
     refine RS.no rfl rfl ?_
     refine RS.p (Pu.pickT rfl rfl) rfl rfl ?_
     exact hJ7 _ _ ⟨dOrT hc6, rfl, trivial⟩ (fun w s => s)
    ·refine RS.p (Pu.fieldAddr fd26_0 rfl) rfl rfl ?_
     refine RS.q (Qt.ldB 0 ty3 rfl rfl rfl) rfl rfl ?_
     refine RS.p (Pu.fieldAddr fd26_1 rfl) rfl rfl ?_
     refine RS.q (Qt.ldB 0 ty3 rfl rfl rfl) rfl rfl ?_
     refine RS.p (Pu.bin rfl rfl rfl) rfl rfl ?_
     refine RS.p (Pu.pickF rfl rfl) rfl rfl ?_
     exact hJ7 _ _ ⟨dOrF hc6, rfl, trivial⟩ (fun w s => s)
  ·intro hJ5
   refine RS.splitP 11 rfl (fun hc4 => ?_) (fun hc4 => ?_)
   ·refine RS.no rfl rfl ?_
    refine RS.no rfl rfl ?_
    refine RS.no rfl rfl ?_
    refine RS.p (Pu.pickT rfl rfl) rfl rfl ?_
    exact hJ5 _ _ ⟨dOrT hc4, rfl, trivial⟩ (fun w s => s)
   ·refine RS.p (Pu.fieldAddr fd26_0 rfl) rfl rfl ?_
    refine RS.q (Qt.ldB 0 ty3 rfl rfl rfl) rfl rfl ?_
    refine RS.p (Pu.bin rfl rfl rfl) rfl rfl ?_
    refine RS.p (Pu.pickF rfl rfl) rfl rfl ?_
    exact hJ5 _ _ ⟨dOrF hc4, rfl, trivial⟩ (fun w s => s)
 ·intro hJ3
  refine RS.splitP 6 rfl (fun hc2 => ?_) (fun hc2 => ?_)
  ·refine RS.no rfl rfl ?_
   refine RS.no rfl rfl ?_
   refine RS.no rfl rfl ?_
   refine RS.p (Pu.pickT rfl rfl) rfl rfl ?_
   exact hJ3 _ _ ⟨dOrT hc2, rfl, trivial⟩ (fun w s => s)
  ·refine RS.p (Pu.fieldAddr fd26_1 rfl) rfl rfl ?_
   refine RS.q (Qt.ldB 0 ty3 rfl rfl rfl) rfl rfl ?_
   refine RS.p (Pu.bin rfl rfl rfl) rfl rfl ?_
   refine RS.p (Pu.pickF rfl rfl) rfl rfl ?_
   exact hJ3 _ _ ⟨dOrF hc2, rfl, trivial⟩ (fun w s => s)
theorem peer_Own_walk (a0_p : Per) (w : World) {v0 v1 v2 v3 v4 : Value} (h0 : R (hpOf w) a0_p.mine [v0]) (h1 : R (hpOf w) a0_p.inputs [v1]) (h2 : R (hpOf w) a0_p.has [v2]) (h3 : R (hpOf w) a0_p.acked [v3]) (h4 : R (hpOf w) a0_p.hashes [v4]) {r : Per} (H : peer_Own a0_p = some r) : Calls Try.prog 32 #[.agg #[.int .i64 a0_p.id, .int .i64 a0_p.players, .int .i64 a0_p.delay, .int .i64 a0_p.turn, .int .i64 a0_p.said, v0, v1, v2, v3, v4, .bool a0_p.split]] w fun e w' => ∃ g : (Option Nat × Nat) × (Option Nat × Nat) × (Option Nat × Nat) × (Option Nat × Nat) × (Option Nat × Nat), e = .returned (.agg #[.int .i64 r.id, .int .i64 r.players, .int .i64 r.delay, .int .i64 r.turn, .int .i64 r.said, rowV g.1 r.mine.length, rowV g.2.1 r.inputs.length, rowV g.2.2.1 r.has.length, rowV g.2.2.2.1 r.acked.length, rowV g.2.2.2.2 r.hashes.length, .bool r.split]) ∧ Sat w [drow 35 (rowV g.1 r.mine.length) r.mine, drow 35 (rowV g.2.1 r.inputs.length) r.inputs, row nilH 3 (rowV g.2.2.1 r.has.length) r.has, row nilH 3 (rowV g.2.2.2.1 r.acked.length) r.acked, row nilH 36 (rowV g.2.2.2.2 r.hashes.length) r.hashes] w' := by
 have hm0 := R_max h0
 obtain ⟨p0, c0, rfl⟩ := R_form h0
 have hm1 := R_max h1
 obtain ⟨p1, c1, rfl⟩ := R_form h1
 have hm2 := R_max h2
 obtain ⟨p2, c2, rfl⟩ := R_form h2
 have hm3 := R_max h3
 obtain ⟨p3, c3, rfl⟩ := R_form h3
 have hm4 := R_max h4
 obtain ⟨p4, c4, rfl⟩ := R_form h4
 unfold peer_Own at H
 refine T.enter (args := [_]) (S := Sat w []) Try.func32 rfl rfl (Sat.start w) ?_
 refine T.seq fun K1 hK1 => ?_
 refine T.region ?_
 refine RS.solid (Sd.box (cs := [_, _, _, _, _, _, _, _, _, _, _]) rfl rfl) rfl rfl fun b1 => ?_
 refine RS.solid (Sd.alloc zr26 rfl) rfl rfl fun b2 => ?_
 refine RS.nil (hK1 _ _ ?_)
 refine T.seq fun K2 hK2 => ?_
 refine T.drawn (fun _ => True) [(0, .pu), (1, .rd), (3, .pu), (4, .rd), (2, .so), (6, .pu), (5, .so), (7, .br), (8, .pu), (9, .br)] mixed (ClE.sat _ _) (by kernel_rfl) ?_
 refine RD.p (fun _ _ => trivial) rfl (Pu.fieldAddr fd26_5 rfl) rfl rfl ?_
 refine RD.q (fun _ _ => trivial) rfl (Qt.ldB 0 ty22 rfl rfl rfl) rfl rfl ?_
 refine RD.p (fun _ _ => trivial) rfl (Pu.fieldAddr fd26_6 rfl) rfl rfl ?_
 refine RD.q (fun _ _ => trivial) rfl (Qt.ldB 0 ty22 rfl rfl rfl) rfl rfl ?_
 obtain ⟨x3, hx3, H⟩ := bindE H
 refine RD.solid rfl (.inl rfl) rfl rfl (Sd.callN (vs := [.slice p0 a0_p.mine.length c0]) ent59 rfl (fun w s => turns_OwnAll_walk a0_p.mine w ((Rd.base h0) w s) hx3)) (fun _ => ClE.sat _ _) (fun _ _ _ => trivial) (fun _ _ _ s => s.drop1) fun q4 => ?_
 refine RD.p (fun _ _ => trivial) rfl (Pu.fieldAddr fd26_5 rfl) rfl rfl ?_
 obtain ⟨x5, hx5, H⟩ := bindE H
 refine RD.solid rfl (.inl rfl) rfl rfl (Sd.callN (vs := [.slice p1 a0_p.inputs.length c1]) ent59 rfl (fun w s => turns_OwnAll_walk a0_p.inputs w ((Rd.base h1) w s) hx5)) (fun _ => ClE.sat _ _) (fun _ _ _ => trivial) (fun _ _ _ s => s.drop1) fun q6 => ?_
 refine RD.solid rfl (.inr rfl) rfl rfl (Sd.stB (cs' := [_, _, _, _, _, _, _, _, _, _, _]) 0 ty22 rfl rfl rfl rfl rfl rfl rfl rfl) (fun _ => ClE.sat _ _) (fun _ _ _ => trivial) (fun h => nomatch h) fun _ => ?_
 refine RD.p (fun _ _ => trivial) rfl (Pu.fieldAddr fd26_6 rfl) rfl rfl ?_
 refine RD.solid rfl (.inr rfl) rfl rfl (Sd.stB (cs' := [_, _, _, _, _, _, _, _, _, _, _]) 0 ty22 rfl rfl rfl rfl rfl rfl rfl rfl) (fun _ => ClE.sat _ _) (fun _ _ _ => trivial) (fun h => nomatch h) fun _ => ?_
 refine RD.nil (hK2 _ _ (T.conseq (fr' := [(1, _), (2, _)]) ?_ ⟨rfl, rfl, trivial⟩ (fun _ s => s)))
 refine T.seq fun K3 hK3 => ?_
 refine T.drawn (fun _ => True) [(0, .pu), (1, .rd), (3, .pu), (4, .rd), (6, .pu), (7, .rd), (2, .so), (9, .pu), (5, .so), (8, .so), (10, .br), (11, .pu), (12, .br), (13, .pu), (14, .br)] mixed (ClE.sat _ _) (by kernel_rfl) ?_
 refine RD.p (fun _ _ => trivial) rfl (Pu.fieldAddr fd26_7 rfl) rfl rfl ?_
 refine RD.q (fun _ _ => trivial) rfl (Qt.ldB 0 ty23 rfl rfl rfl) rfl rfl ?_
 refine RD.p (fun _ _ => trivial) rfl (Pu.fieldAddr fd26_8 rfl) rfl rfl ?_
 refine RD.q (fun _ _ => trivial) rfl (Qt.ldB 0 ty23 rfl rfl rfl) rfl rfl ?_
 refine RD.p (fun _ _ => trivial) rfl (Pu.fieldAddr fd26_9 rfl) rfl rfl ?_
 refine RD.q (fun _ _ => trivial) rfl (Qt.ldB 0 ty24 rfl rfl rfl) rfl rfl ?_
 obtain ⟨x7, hx7, H⟩ := bindE H
 refine RD.solid rfl (.inl rfl) rfl rfl (Sd.callN (vs := [.slice p2 a0_p.has.length c2]) ent60 rfl (fun w s => slices_Clone_Int_walk a0_p.has w ((Rd.base h2) w s) hx7)) (fun _ => ClE.sat _ _) (fun _ _ _ => trivial) (fun _ _ _ s => s.drop1) fun q8 => ?_
 refine RD.p (fun _ _ => trivial) rfl (Pu.fieldAddr fd26_7 rfl) rfl rfl ?_
 obtain ⟨x9, hx9, H⟩ := bindE H
 refine RD.solid rfl (.inl rfl) rfl rfl (Sd.callN (vs := [.slice p3 a0_p.acked.length c3]) ent60 rfl (fun w s => slices_Clone_Int_walk a0_p.acked w ((Rd.base h3) w s) hx9)) (fun _ => ClE.sat _ _) (fun _ _ _ => trivial) (fun _ _ _ s => s.drop1) fun q10 => ?_
 obtain ⟨x11, hx11, H⟩ := bindE H
 refine RD.solid rfl (.inl rfl) rfl rfl (Sd.callN (vs := [.slice p4 a0_p.hashes.length c4]) ent61 rfl (fun w s => slices_Clone_U64_walk a0_p.hashes w ((Rd.base h4) w s) hx11)) (fun _ => ClE.sat _ _) (fun _ _ _ => trivial) (fun _ _ _ s => s.drop1) fun q12 => ?_
 refine RD.solid rfl (.inr rfl) rfl rfl (Sd.stB (cs' := [_, _, _, _, _, _, _, _, _, _, _]) 0 ty23 rfl rfl rfl rfl rfl rfl rfl rfl) (fun _ => ClE.sat _ _) (fun _ _ _ => trivial) (fun h => nomatch h) fun _ => ?_
 refine RD.p (fun _ _ => trivial) rfl (Pu.fieldAddr fd26_8 rfl) rfl rfl ?_
 refine RD.solid rfl (.inr rfl) rfl rfl (Sd.stB (cs' := [_, _, _, _, _, _, _, _, _, _, _]) 0 ty23 rfl rfl rfl rfl rfl rfl rfl rfl) (fun _ => ClE.sat _ _) (fun _ _ _ => trivial) (fun h => nomatch h) fun _ => ?_
 refine RD.p (fun _ _ => trivial) rfl (Pu.fieldAddr fd26_9 rfl) rfl rfl ?_
 refine RD.solid rfl (.inr rfl) rfl rfl (Sd.stB (cs' := [_, _, _, _, _, _, _, _, _, _, _]) 0 ty24 rfl rfl rfl rfl rfl rfl rfl rfl) (fun _ => ClE.sat _ _) (fun _ _ _ => trivial) (fun h => nomatch h) fun _ => ?_
 refine RD.nil (hK3 _ _ (T.conseq (fr' := [(1, _), (2, _)]) ?_ ⟨rfl, rfl, trivial⟩ (fun _ s => s)))
 refine T.seq fun K4 hK4 => ?_
 try dsimp only [List.set, List.cons_append, List.nil_append]
 refine T.region ?_
 refine RS.q (Qt.ldBA (us := [_, _, _, _, _, _, _, _, _, _, _]) 0 ty26 rfl rfl rfl rfl) rfl rfl ?_
 refine RS.solid (Sd.stB (cs' := [_, _, _, _, _, _, _, _, _, _, _]) 1 ty26 rfl rfl rfl rfl rfl rfl rfl rfl) rfl rfl fun _ => ?_
 refine RS.nil (hK4 _ _ ?_)
 obtain rfl := Option.some.inj H
 try dsimp only [List.set, List.cons_append, List.nil_append]
 refine T.rt (Cont.retC 1 rfl ty26 rfl rfl rfl fun w' s => ?_)
 exact ⟨⟨q4, q6, q8, q10, q12⟩, rfl, s.pick [2, 3, 4, 5, 6] (by decide) rfl⟩
theorem peer_New_walk (a0_id : Int) (a1_players : Int) (a2_delay : Int) (w : World) {r : Per × Int} (H : peer_New a0_id a1_players a2_delay = some r) : Calls Try.prog 16 #[.int .i64 a0_id, .int .i64 a1_players, .int .i64 a2_delay] w fun e w' => ∃ g : (Option Nat × Nat) × (Option Nat × Nat) × (Option Nat × Nat) × (Option Nat × Nat) × (Option Nat × Nat), e = .returned (.tuple #[.agg #[.int .i64 r.1.id, .int .i64 r.1.players, .int .i64 r.1.delay, .int .i64 r.1.turn, .int .i64 r.1.said, rowV g.1 r.1.mine.length, rowV g.2.1 r.1.inputs.length, rowV g.2.2.1 r.1.has.length, rowV g.2.2.2.1 r.1.acked.length, rowV g.2.2.2.2 r.1.hashes.length, .bool r.1.split], .int .i64 r.2]) ∧ Sat w [drow 35 (rowV g.1 r.1.mine.length) r.1.mine, drow 35 (rowV g.2.1 r.1.inputs.length) r.1.inputs, row nilH 3 (rowV g.2.2.1 r.1.has.length) r.1.has, row nilH 3 (rowV g.2.2.2.1 r.1.acked.length) r.1.acked, row nilH 36 (rowV g.2.2.2.2 r.1.hashes.length) r.1.hashes] w' := by
 unfold peer_New at H
 refine T.enter (args := [_, _, _]) (S := Sat w []) Try.func16 rfl rfl (Sat.start w) ?_
 refine T.seq fun K1 hK1 => ?_
 refine T.region ?_
 refine RS.solid (Sd.alloc zr26 rfl) rfl rfl fun b1 => ?_
 refine RS.p (Pu.assign rfl) rfl rfl ?_
 refine RS.nil (hK1 _ _ ?_)
 refine T.seq fun K2 hK2 => ?_
 refine T.region ?_
 refine RS.p (Pu.move rfl) rfl rfl ?_
 refine RS.p (Pu.move rfl) rfl rfl ?_
 refine RS.p (Pu.move rfl) rfl rfl ?_
 refine RS.p (Pu.move rfl) rfl rfl ?_
 refine RS.p (Pu.subW rfl rfl) rfl rfl ?_
 refine RS.p (Pu.build (cells := [_, _, _, _, _, _, _, _, _, _, _]) st26 rfl rfl) rfl rfl ?_
 refine RS.solid (Sd.alloc zr26 rfl) rfl rfl fun b2 => ?_
 refine RS.solid (Sd.stB (cs' := [_, _, _, _, _, _, _, _, _, _, _]) 1 ty26 rfl rfl rfl rfl rfl rfl rfl rfl) rfl rfl fun _ => ?_
 refine RS.nil (hK2 _ _ (T.conseq (fr' := [(1, _), (2, _), (6, _), (8, _)]) ?_ ⟨rfl, rfl, rfl, rfl, trivial⟩ (fun _ s => s)))
 refine T.seq fun K3 hK3 => ?_
 refine T.seq fun K4 hK4 => ?_
 refine T.region ?_
 refine RS.p (Pu.move rfl) rfl rfl ?_
 refine RS.p (Pu.bin rfl rfl rfl) rfl rfl ?_
 refine RS.p (Pu.move rfl) rfl rfl ?_
 refine RS.joinV 3 20 (.bool (decide ((1 ≤ a1_players) ∧ (a1_players ≤ 8)))) [(1, _), (2, _), (6, _), (8, _)] ⟨rfl, rfl, rfl, rfl, trivial⟩ ?_ ?_
 ·refine RS.nil (hK4 _ _ ?_)
  refine T.condP rfl (fun hc5 => ?_) (fun hc5 => ?_)
  ·have H := ifT hc5 H
   refine T.region ?_
   refine RS.p (Pu.move rfl) rfl rfl ?_
   refine RS.p (Pu.subW rfl rfl) rfl rfl ?_
   refine RS.solid (Sd.litS (cs := [_]) sl23 zr3 rfl rfl rfl rfl rfl) rfl rfl fun b6 => ?_
   refine RS.weakS (fun w s => s.litRow (α := Int) (n := 1) 2 [(w64 (a2_delay - 1))] rfl (by decide) rfl ⟨[_], _, rfl, rfl, rfl⟩) ?_
   refine RS.p (Pu.move rfl) rfl rfl ?_
   obtain ⟨x7, hx7, H⟩ := bindE H
   refine RS.solid (Sd.callN (vs := [rowV (some b6, 1) 1, .int .i64 a1_players]) ent41 rfl (fun w s => slices_Repeat_Int_walk [(w64 (a2_delay - 1))] a1_players w ((Rd.ofRowN 2 rfl) w s) hx7)) rfl rfl fun q8 => ?_
   refine RS.p (Pu.move rfl) rfl rfl ?_
   refine RS.p (Pu.subW rfl rfl) rfl rfl ?_
   refine RS.solid (Sd.litS (cs := [_]) sl23 zr3 rfl rfl rfl rfl rfl) rfl rfl fun b9 => ?_
   refine RS.weakS (fun w s => s.litRow (α := Int) (n := 1) 4 [(w64 (a2_delay - 1))] rfl (by decide) rfl ⟨[_], _, rfl, rfl, rfl⟩) ?_
   refine RS.p (Pu.move rfl) rfl rfl ?_
   obtain ⟨x10, hx10, H⟩ := bindE H
   refine RS.solid (Sd.callN (vs := [rowV (some b9, 1) 1, .int .i64 a1_players]) ent41 rfl (fun w s => slices_Repeat_Int_walk [(w64 (a2_delay - 1))] a1_players w ((Rd.ofRowN 4 rfl) w s) hx10)) rfl rfl fun q11 => ?_
   refine RS.p (Pu.fieldAddr fd26_7 rfl) rfl rfl ?_
   refine RS.solid (Sd.stB (cs' := [_, _, _, _, _, _, _, _, _, _, _]) 1 ty23 rfl rfl rfl rfl rfl rfl rfl rfl) rfl rfl fun _ => ?_
   refine RS.p (Pu.fieldAddr fd26_8 rfl) rfl rfl ?_
   refine RS.solid (Sd.stB (cs' := [_, _, _, _, _, _, _, _, _, _, _]) 1 ty23 rfl rfl rfl rfl rfl rfl rfl rfl) rfl rfl fun _ => ?_
   refine RS.nil (hK3 _ _ (T.conseq (fr' := [(6, _), (8, _)]) ?_ ⟨rfl, rfl, trivial⟩ (fun _ s => s)))
   refine T.seq fun K5 hK5 => ?_
   refine T.seq fun K6 hK6 => ?_
   refine T.region ?_
   refine RS.q (Qt.ldBA (us := [_, _, _, _, _, _, _, _, _, _, _]) 1 ty26 rfl rfl rfl rfl) rfl rfl ?_
   obtain ⟨x12, hx12, H⟩ := bindE H
   refine RS.q (Qt.call (vs := [.agg #[.int .i64 a0_id, .int .i64 a1_players, .int .i64 a2_delay, .int .i64 0, .int .i64 (w64 (a2_delay - 1)), .slice none 0 0, .slice none 0 0, rowV q8 x7.length, rowV q11 x10.length, .slice none 0 0, .bool false]]) ent30 rfl fun w s => peer_May_walk (⟨a0_id, a1_players, a2_delay, 0, (w64 (a2_delay - 1)), [], [], x7, x10, [], false⟩ : Per) w ((Rd.nil (α := Inp)) w s) ((Rd.nil (α := Inp)) w s) ((Rd.ofRowN 3 rfl) w s) ((Rd.ofRowN 5 rfl) w s) ((Rd.nil (α := UInt64)) w s) hx12) rfl rfl ?_
   refine RS.p (Pu.not rfl) rfl rfl ?_
   refine RS.nil (hK6 _ _ ?_)
   refine T.cond rfl (fun hc13 => ?_) (fun hc13 => ?_)
   ·have H := ifT hc13 H
    refine T.conseq (fr' := [(6, _)]) ?_ ⟨rfl, trivial⟩ (fun _ s => s)
    refine T.seq fun K7 hK7 => ?_
    refine T.region ?_
    refine RS.p (Pu.build (cells := [_, _, _, _, _, _, _, _, _, _, _]) st26 rfl rfl) rfl rfl ?_
    refine RS.solid (Sd.stB (cs' := [_, _, _, _, _, _, _, _, _, _, _]) 0 ty26 rfl rfl rfl rfl rfl rfl rfl rfl) rfl rfl fun _ => ?_
    refine RS.p (Pu.assign rfl) rfl rfl ?_
    refine RS.nil (hK7 _ _ ?_)
    obtain rfl := Option.some.inj H
    refine T.rt (Cont.retCT 0 rfl ty26 rfl rfl rfl rfl fun w' s => ?_)
    exact ⟨⟨(none, 0), (none, 0), (none, 0), (none, 0), (none, 0)⟩, rfl, (((((s.nilRowG (α := Inp) 35).nilRowG (α := Inp) 35).nilRow (α := Int) 3).nilRow (α := Int) 3).nilRow (α := UInt64) 36).pick [6, 7, 8, 9, 10] (by decide) rfl⟩
   ·have H := ifB hc13 H
    refine T.skip (hK5 _ _ (T.conseq (fr' := [(6, _), (8, _)]) ?_ ⟨rfl, rfl, trivial⟩ (fun _ s => s)))
    refine T.seq fun K8 hK8 => ?_
    refine T.region ?_
    refine RS.q (Qt.ldBA (us := [_, _, _, _, _, _, _, _, _, _, _]) 1 ty26 rfl rfl rfl rfl) rfl rfl ?_
    refine RS.solid (Sd.stB (cs' := [_, _, _, _, _, _, _, _, _, _, _]) 0 ty26 rfl rfl rfl rfl rfl rfl rfl rfl) rfl rfl fun _ => ?_
    refine RS.p (Pu.assign rfl) rfl rfl ?_
    refine RS.nil (hK8 _ _ ?_)
    obtain rfl := Option.some.inj H
    refine T.rt (Cont.retCT 0 rfl ty26 rfl rfl rfl rfl fun w' s => ?_)
    exact ⟨⟨(none, 0), (none, 0), q8, q11, (none, 0)⟩, rfl, (((s.nilRowG (α := Inp) 35).nilRowG (α := Inp) 35).nilRow (α := UInt64) 36).pick [6, 7, 3, 5, 8] (by decide) rfl⟩
  ·have H := ifF hc5 H
   refine T.skip (hK3 _ _ (T.conseq (fr' := [(6, _), (8, _)]) ?_ ⟨rfl, rfl, trivial⟩ (fun _ s => s)))
   refine T.seq fun K9 hK9 => ?_
   refine T.seq fun K10 hK10 => ?_
   refine T.region ?_
   refine RS.q (Qt.ldBA (us := [_, _, _, _, _, _, _, _, _, _, _]) 1 ty26 rfl rfl rfl rfl) rfl rfl ?_
   obtain ⟨x14, hx14, H⟩ := bindE H
   refine RS.q (Qt.call (vs := [.agg #[.int .i64 a0_id, .int .i64 a1_players, .int .i64 a2_delay, .int .i64 0, .int .i64 (w64 (a2_delay - 1)), .slice none 0 0, .slice none 0 0, .slice none 0 0, .slice none 0 0, .slice none 0 0, .bool false]]) ent30 rfl fun w s => peer_May_walk (⟨a0_id, a1_players, a2_delay, 0, (w64 (a2_delay - 1)), [], [], [], [], [], false⟩ : Per) w ((Rd.nil (α := Inp)) w s) ((Rd.nil (α := Inp)) w s) ((Rd.nil (α := Int)) w s) ((Rd.nil (α := Int)) w s) ((Rd.nil (α := UInt64)) w s) hx14) rfl rfl ?_
   refine RS.p (Pu.not rfl) rfl rfl ?_
   refine RS.nil (hK10 _ _ ?_)
   refine T.cond rfl (fun hc15 => ?_) (fun hc15 => ?_)
   ·have H := ifT hc15 H
    refine T.conseq (fr' := [(6, _)]) ?_ ⟨rfl, trivial⟩ (fun _ s => s)
    refine T.seq fun K11 hK11 => ?_
    refine T.region ?_
    refine RS.p (Pu.build (cells := [_, _, _, _, _, _, _, _, _, _, _]) st26 rfl rfl) rfl rfl ?_
    refine RS.solid (Sd.stB (cs' := [_, _, _, _, _, _, _, _, _, _, _]) 0 ty26 rfl rfl rfl rfl rfl rfl rfl rfl) rfl rfl fun _ => ?_
    refine RS.p (Pu.assign rfl) rfl rfl ?_
    refine RS.nil (hK11 _ _ ?_)
    obtain rfl := Option.some.inj H
    refine T.rt (Cont.retCT 0 rfl ty26 rfl rfl rfl rfl fun w' s => ?_)
    exact ⟨⟨(none, 0), (none, 0), (none, 0), (none, 0), (none, 0)⟩, rfl, (((((s.nilRowG (α := Inp) 35).nilRowG (α := Inp) 35).nilRow (α := Int) 3).nilRow (α := Int) 3).nilRow (α := UInt64) 36).pick [2, 3, 4, 5, 6] (by decide) rfl⟩
   ·have H := ifB hc15 H
    refine T.skip (hK9 _ _ (T.conseq (fr' := [(6, _), (8, _)]) ?_ ⟨rfl, rfl, trivial⟩ (fun _ s => s)))
    refine T.seq fun K12 hK12 => ?_
    refine T.region ?_
    refine RS.q (Qt.ldBA (us := [_, _, _, _, _, _, _, _, _, _, _]) 1 ty26 rfl rfl rfl rfl) rfl rfl ?_
    refine RS.solid (Sd.stB (cs' := [_, _, _, _, _, _, _, _, _, _, _]) 0 ty26 rfl rfl rfl rfl rfl rfl rfl rfl) rfl rfl fun _ => ?_
    refine RS.p (Pu.assign rfl) rfl rfl ?_
    refine RS.nil (hK12 _ _ ?_)
    obtain rfl := Option.some.inj H
    refine T.rt (Cont.retCT 0 rfl ty26 rfl rfl rfl rfl fun w' s => ?_)
    exact ⟨⟨(none, 0), (none, 0), (none, 0), (none, 0), (none, 0)⟩, rfl, (((((s.nilRowG (α := Inp) 35).nilRowG (α := Inp) 35).nilRow (α := Int) 3).nilRow (α := Int) 3).nilRow (α := UInt64) 36).pick [2, 3, 4, 5, 6] (by decide) rfl⟩
 ·intro hJ4
  refine RS.splitP 17 rfl (fun hc3 => ?_) (fun hc3 => ?_)
  ·refine RS.p (Pu.move rfl) rfl rfl ?_
   refine RS.p (Pu.bin rfl rfl rfl) rfl rfl ?_
   refine RS.p (Pu.pickT rfl rfl) rfl rfl ?_
   exact hJ4 _ _ ⟨dAndT hc3, rfl, rfl, rfl, rfl, trivial⟩ (fun w s => s)
  ·refine RS.no rfl rfl ?_
   refine RS.no rfl rfl ?_
   refine RS.p (Pu.pickF rfl rfl) rfl rfl ?_
   exact hJ4 _ _ ⟨dAndF hc3, rfl, rfl, rfl, rfl, trivial⟩ (fun w s => s)
theorem peer_can_walk (a0_p : Per) (w : World) {v0 v1 v2 v3 v4 : Value} (h0 : R (hpOf w) a0_p.mine [v0]) (h1 : R (hpOf w) a0_p.inputs [v1]) (h2 : R (hpOf w) a0_p.has [v2]) (h3 : R (hpOf w) a0_p.acked [v3]) (h4 : R (hpOf w) a0_p.hashes [v4]) {r : Bool} (H : peer_can a0_p = some r) : Calls Try.prog 37 #[.agg #[.int .i64 a0_p.id, .int .i64 a0_p.players, .int .i64 a0_p.delay, .int .i64 a0_p.turn, .int .i64 a0_p.said, v0, v1, v2, v3, v4, .bool a0_p.split]] w fun e w' => e = .returned (.bool r) ∧ Ext w w' := by
 have hm0 := R_max h0
 obtain ⟨p0, c0, rfl⟩ := R_form h0
 have hm1 := R_max h1
 obtain ⟨p1, c1, rfl⟩ := R_form h1
 have hm2 := R_max h2
 obtain ⟨p2, c2, rfl⟩ := R_form h2
 have hm3 := R_max h3
 obtain ⟨p3, c3, rfl⟩ := R_form h3
 have hm4 := R_max h4
 obtain ⟨p4, c4, rfl⟩ := R_form h4
 unfold peer_can at H
 refine T.enter (args := [_]) (S := Sat w []) Try.func37 rfl rfl (Sat.start w) ?_
 refine T.seq fun K1 hK1 => ?_
 refine T.region ?_
 refine RS.solid (Sd.box (cs := [_, _, _, _, _, _, _, _, _, _, _]) rfl rfl) rfl rfl fun b1 => ?_
 refine RS.p (Pu.assign rfl) rfl rfl ?_
 refine RS.nil (hK1 _ _ ?_)
 refine T.seq fun K2 hK2 => ?_
 refine T.drawn (fun _ => True) [(0, .pu), (1, .rd), (2, .rd), (3, .pu), (4, .rd), (5, .pu), (6, .pu), (7, .pu), (8, .rd), (9, .pu), (10, .pu), (11, .pu)] mixed (ClE.sat _ _) (by kernel_rfl) ?_
 refine RD.p (fun _ _ => trivial) rfl (Pu.fieldAddr fd26_7 rfl) rfl rfl ?_
 refine RD.q (fun _ _ => trivial) rfl (Qt.ldB 0 ty23 rfl rfl rfl) rfl rfl ?_
 obtain ⟨x2, hx2, H⟩ := bindE H
 refine RD.q (fun _ _ => trivial) rfl (Qt.call (vs := [.slice p2 a0_p.has.length c2]) ent51 rfl fun w s => slices_Min_walk a0_p.has w ((Rd.base h2) w s) hx2) rfl rfl ?_
 refine RD.p (fun _ _ => trivial) rfl (Pu.fieldAddr fd26_3 rfl) rfl rfl ?_
 refine RD.q (fun _ _ => trivial) rfl (Qt.ldB 0 ty3 rfl rfl rfl) rfl rfl ?_
 refine RD.p (fun _ _ => trivial) rfl (Pu.bin rfl rfl rfl) rfl rfl ?_
 refine RD.p (fun _ _ => trivial) rfl (Pu.move rfl) rfl rfl ?_
 refine RD.joinV 4 13 (.bool (decide ((a0_p.turn ≤ x2) ∧ (a0_p.turn < 1099511627776)))) [(2, _)] ⟨rfl, trivial⟩ ?_ ?_
 ·refine RD.p (fun _ _ => trivial) rfl (Pu.assign rfl) rfl rfl ?_
  refine RD.nil (hK2 _ _ ?_)
  obtain rfl := Option.some.inj H
  refine T.rt (Cont.ret1 rfl rfl fun w' s => ?_)
  exact ⟨rfl, s.ext⟩
 ·intro hJ4
  refine RD.splitP 9 rfl (fun hc3 => ?_) (fun hc3 => ?_)
  ·refine RD.p (fun _ _ => trivial) rfl (Pu.fieldAddr fd26_3 rfl) rfl rfl ?_
   refine RD.q (fun _ _ => trivial) rfl (Qt.ldB 0 ty3 rfl rfl rfl) rfl rfl ?_
   refine RD.p (fun _ _ => trivial) rfl (Pu.bin rfl rfl rfl) rfl rfl ?_
   refine RD.p (fun _ _ => trivial) rfl (Pu.pickT rfl rfl) rfl rfl ?_
   exact hJ4 _ ⟨dAndT hc3, rfl, trivial⟩
  ·refine RD.no (fun _ _ => trivial) rfl rfl rfl (.inl rfl) ?_
   refine RD.no (fun _ _ => trivial) rfl rfl rfl (.inr (.inr rfl)) ?_
   refine RD.no (fun _ _ => trivial) rfl rfl rfl (.inl rfl) ?_
   refine RD.p (fun _ _ => trivial) rfl (Pu.pickF rfl rfl) rfl rfl ?_
   exact hJ4 _ ⟨dAndF hc3, rfl, trivial⟩
theorem peer_Ready_walk (a0_p : Per) (w : World) {v0 v1 v2 v3 v4 : Value} (h0 : R (hpOf w) a0_p.mine [v0]) (h1 : R (hpOf w) a0_p.inputs [v1]) (h2 : R (hpOf w) a0_p.has [v2]) (h3 : R (hpOf w) a0_p.acked [v3]) (h4 : R (hpOf w) a0_p.hashes [v4]) {r : List Cmd × Bool × Int} (H : peer_Ready a0_p = some r) : Calls Try.prog 18 #[.agg #[.int .i64 a0_p.id, .int .i64 a0_p.players, .int .i64 a0_p.delay, .int .i64 a0_p.turn, .int .i64 a0_p.said, v0, v1, v2, v3, v4, .bool a0_p.split]] w fun e w' => ∃ q1 : (Option Nat × Nat), e = .returned (.tuple #[rowV q1 r.1.length, .bool r.2.1, .int .i64 r.2.2]) ∧ Sat w [drow 63 (rowV q1 r.1.length) r.1] w' := by
 have hm0 := R_max h0
 obtain ⟨p0, c0, rfl⟩ := R_form h0
 have hm1 := R_max h1
 obtain ⟨p1, c1, rfl⟩ := R_form h1
 have hm2 := R_max h2
 obtain ⟨p2, c2, rfl⟩ := R_form h2
 have hm3 := R_max h3
 obtain ⟨p3, c3, rfl⟩ := R_form h3
 have hm4 := R_max h4
 obtain ⟨p4, c4, rfl⟩ := R_form h4
 unfold peer_Ready at H
 refine T.enter (args := [_]) (S := Sat w []) Try.func18 rfl rfl (Sat.start w) ?_
 refine T.seq fun K1 hK1 => ?_
 refine T.region ?_
 refine RS.solid (Sd.box (cs := [_, _, _, _, _, _, _, _, _, _, _]) rfl rfl) rfl rfl fun b1 => ?_
 refine RS.p (Pu.assign rfl) rfl rfl ?_
 refine RS.p (Pu.assign rfl) rfl rfl ?_
 refine RS.p (Pu.assign rfl) rfl rfl ?_
 refine RS.nil (hK1 _ _ (T.conseq (fr' := [(1, _)]) ?_ ⟨rfl, trivial⟩ (fun _ s => s)))
 refine T.seq fun K2 hK2 => ?_
 refine T.block ?_
 refine T.seq fun K3 hK3 => ?_
 refine T.region ?_
 refine RS.q (Qt.ldBA (us := [_, _, _, _, _, _, _, _, _, _, _]) 0 ty26 rfl rfl rfl rfl) rfl rfl ?_
 obtain ⟨x2, hx2, H⟩ := bindE H
 refine RS.q (Qt.call (vs := [.agg #[.int .i64 a0_p.id, .int .i64 a0_p.players, .int .i64 a0_p.delay, .int .i64 a0_p.turn, .int .i64 a0_p.said, .slice p0 a0_p.mine.length c0, .slice p1 a0_p.inputs.length c1, .slice p2 a0_p.has.length c2, .slice p3 a0_p.acked.length c3, .slice p4 a0_p.hashes.length c4, .bool a0_p.split]]) ent30 rfl fun w s => peer_May_walk a0_p w ((Rd.base h0) w s) ((Rd.base h1) w s) ((Rd.base h2) w s) ((Rd.base h3) w s) ((Rd.base h4) w s) hx2) rfl rfl ?_
 refine RS.p (Pu.not rfl) rfl rfl ?_
 refine RS.p (Pu.assign rfl) rfl rfl ?_
 refine RS.nil (hK3 _ _ ?_)
 refine T.cond rfl (fun hc3 => ?_) (fun hc3 => ?_)
 ·have H := ifT hc3 H
  refine T.conseq (fr' := []) ?_ trivial (fun _ s => s)
  refine T.seq fun K4 hK4 => ?_
  refine T.region ?_
  refine RS.p (Pu.assign rfl) rfl rfl ?_
  refine RS.p (Pu.assign rfl) rfl rfl ?_
  refine RS.p (Pu.assign rfl) rfl rfl ?_
  refine RS.nil (hK4 _ _ ?_)
  obtain rfl := Option.some.inj H
  refine T.rt (Cont.ret3 rfl rfl rfl rfl fun w' s => ?_)
  exact ⟨(none, 0), rfl, (s.nilRowG (α := Cmd) 63).pick [1] (by decide) rfl⟩
 ·have H := ifB hc3 H
  refine T.conseq (fr' := [(1, _)]) ?_ ⟨rfl, trivial⟩ (fun _ s => s)
  refine T.seq fun K5 hK5 => ?_
  refine T.region ?_
  refine RS.q (Qt.ldBA (us := [_, _, _, _, _, _, _, _, _, _, _]) 0 ty26 rfl rfl rfl rfl) rfl rfl ?_
  obtain ⟨x4, hx4, H⟩ := bindE H
  refine RS.q (Qt.call (vs := [.agg #[.int .i64 a0_p.id, .int .i64 a0_p.players, .int .i64 a0_p.delay, .int .i64 a0_p.turn, .int .i64 a0_p.said, .slice p0 a0_p.mine.length c0, .slice p1 a0_p.inputs.length c1, .slice p2 a0_p.has.length c2, .slice p3 a0_p.acked.length c3, .slice p4 a0_p.hashes.length c4, .bool a0_p.split]]) ent37 rfl fun w s => peer_can_walk a0_p w ((Rd.base h0) w s) ((Rd.base h1) w s) ((Rd.base h2) w s) ((Rd.base h3) w s) ((Rd.base h4) w s) hx4) rfl rfl ?_
  refine RS.p (Pu.not rfl) rfl rfl ?_
  refine RS.p (Pu.assign rfl) rfl rfl ?_
  refine RS.nil (hK5 _ _ ?_)
  refine T.cond rfl (fun hc5 => ?_) (fun hc5 => ?_)
  ·have H := ifT hc5 H
   refine T.conseq (fr' := []) ?_ trivial (fun _ s => s)
   refine T.seq fun K6 hK6 => ?_
   refine T.region ?_
   refine RS.p (Pu.assign rfl) rfl rfl ?_
   refine RS.p (Pu.assign rfl) rfl rfl ?_
   refine RS.p (Pu.assign rfl) rfl rfl ?_
   refine RS.nil (hK6 _ _ ?_)
   obtain rfl := Option.some.inj H
   refine T.rt (Cont.ret3 rfl rfl rfl rfl fun w' s => ?_)
   exact ⟨(none, 0), rfl, (s.nilRowG (α := Cmd) 63).pick [1] (by decide) rfl⟩
  ·have H := ifB hc5 H
   refine T.skip (hK2 _ _ (T.conseq (fr' := [(1, _)]) ?_ ⟨rfl, trivial⟩ (fun _ s => s)))
   refine T.seq fun K7 hK7 => ?_
   refine T.region ?_
   refine RS.p (Pu.fieldAddr fd26_6 rfl) rfl rfl ?_
   refine RS.q (Qt.ldB 0 ty22 rfl rfl rfl) rfl rfl ?_
   refine RS.p (Pu.fieldAddr fd26_3 rfl) rfl rfl ?_
   refine RS.q (Qt.ldB 0 ty3 rfl rfl rfl) rfl rfl ?_
   obtain ⟨x6, hx6, H⟩ := bindE H
   refine RS.solid (Sd.callN (vs := [.slice p1 a0_p.inputs.length c1, .int .i64 a0_p.turn]) ent38 rfl (fun w s => turns_Part_walk a0_p.inputs a0_p.turn w ((Rd.base h1) w s) hx6)) rfl rfl fun ⟨q7, q8⟩ => ?_
   refine RS.p (Pu.move rfl) rfl rfl ?_
   refine RS.p (Pu.extract rfl rfl) rfl rfl ?_
   refine RS.p (Pu.extract rfl rfl) rfl rfl ?_
   refine RS.p (Pu.assign rfl) rfl rfl ?_
   refine RS.p (Pu.assign rfl) rfl rfl ?_
   refine RS.nil (hK7 _ _ (T.conseq (fr' := [(5, _)]) ?_ ⟨rfl, trivial⟩ (fun _ s => s)))
   refine T.seq fun K8 hK8 => ?_
   refine T.region ?_
   refine RS.p (Pu.move rfl) rfl rfl ?_
   obtain ⟨x9, hx9, H⟩ := bindE H
   refine RS.solid (Sd.callN (vs := [rowV q7 x6.1.length]) ent44 rfl (fun w s => turns_All_walk x6.1 w ((Rd.ofG 1 rfl) w s) hx9)) rfl rfl fun q10 => ?_
   refine RS.p (Pu.assign rfl) rfl rfl ?_
   refine RS.p (Pu.assign rfl) rfl rfl ?_
   refine RS.p (Pu.assign rfl) rfl rfl ?_
   refine RS.nil (hK8 _ _ (T.conseq (fr' := [(2, _), (3, _), (4, _)]) ?_ ⟨rfl, rfl, rfl, trivial⟩ (fun _ s => s)))
   obtain rfl := Option.some.inj H
   refine T.rt (Cont.ret3 rfl rfl rfl rfl fun w' s => ?_)
   exact ⟨q10, rfl, s.pick [3] (by decide) rfl⟩
theorem peer_Ran_walk (a0_p : Per) (a1_h : UInt64) (w : World) {v0 v1 v2 v3 v4 : Value} (h0 : R (hpOf w) a0_p.mine [v0]) (h1 : R (hpOf w) a0_p.inputs [v1]) (h2 : R (hpOf w) a0_p.has [v2]) (h3 : R (hpOf w) a0_p.acked [v3]) (h4 : R (hpOf w) a0_p.hashes [v4]) {r : Per × Int} (H : peer_Ran a0_p a1_h = some r) : Calls Try.prog 11 #[.agg #[.int .i64 a0_p.id, .int .i64 a0_p.players, .int .i64 a0_p.delay, .int .i64 a0_p.turn, .int .i64 a0_p.said, v0, v1, v2, v3, v4, .bool a0_p.split], .int .u64 a1_h.toNat] w fun e w' => ∃ g : (Option Nat × Nat) × (Option Nat × Nat) × (Option Nat × Nat) × (Option Nat × Nat) × Value, e = .returned (.tuple #[.agg #[.int .i64 r.1.id, .int .i64 r.1.players, .int .i64 r.1.delay, .int .i64 r.1.turn, .int .i64 r.1.said, rowV g.1 r.1.mine.length, rowV g.2.1 r.1.inputs.length, rowV g.2.2.1 r.1.has.length, rowV g.2.2.2.1 r.1.acked.length, g.2.2.2.2, .bool r.1.split], .int .i64 r.2]) ∧ Sat w [drow 35 (rowV g.1 r.1.mine.length) r.1.mine, drow 35 (rowV g.2.1 r.1.inputs.length) r.1.inputs, row nilH 3 (rowV g.2.2.1 r.1.has.length) r.1.has, row nilH 3 (rowV g.2.2.2.1 r.1.acked.length) r.1.acked, osl 36 (g.2.2.2.2) r.1.hashes] w' := by
 have hm0 := R_max h0
 obtain ⟨p0, c0, rfl⟩ := R_form h0
 have hm1 := R_max h1
 obtain ⟨p1, c1, rfl⟩ := R_form h1
 have hm2 := R_max h2
 obtain ⟨p2, c2, rfl⟩ := R_form h2
 have hm3 := R_max h3
 obtain ⟨p3, c3, rfl⟩ := R_form h3
 have hm4 := R_max h4
 obtain ⟨p4, c4, rfl⟩ := R_form h4
 unfold peer_Ran at H
 refine T.enter (args := [_, _]) (S := Sat w []) Try.func11 rfl rfl (Sat.start w) ?_
 refine T.seq fun K1 hK1 => ?_
 refine T.region ?_
 refine RS.solid (Sd.box (cs := [_, _, _, _, _, _, _, _, _, _, _]) rfl rfl) rfl rfl fun b1 => ?_
 refine RS.solid (Sd.alloc zr26 rfl) rfl rfl fun b2 => ?_
 refine RS.p (Pu.assign rfl) rfl rfl ?_
 refine RS.nil (hK1 _ _ ?_)
 refine T.seq fun K2 hK2 => ?_
 refine T.block ?_
 refine T.seq fun K3 hK3 => ?_
 refine T.region ?_
 refine RS.q (Qt.ldBA (us := [_, _, _, _, _, _, _, _, _, _, _]) 0 ty26 rfl rfl rfl rfl) rfl rfl ?_
 obtain ⟨x3, hx3, H⟩ := bindE H
 refine RS.q (Qt.call (vs := [.agg #[.int .i64 a0_p.id, .int .i64 a0_p.players, .int .i64 a0_p.delay, .int .i64 a0_p.turn, .int .i64 a0_p.said, .slice p0 a0_p.mine.length c0, .slice p1 a0_p.inputs.length c1, .slice p2 a0_p.has.length c2, .slice p3 a0_p.acked.length c3, .slice p4 a0_p.hashes.length c4, .bool a0_p.split]]) ent30 rfl fun w s => peer_May_walk a0_p w ((Rd.base h0) w s) ((Rd.base h1) w s) ((Rd.base h2) w s) ((Rd.base h3) w s) ((Rd.base h4) w s) hx3) rfl rfl ?_
 refine RS.p (Pu.not rfl) rfl rfl ?_
 refine RS.p (Pu.assign rfl) rfl rfl ?_
 refine RS.nil (hK3 _ _ ?_)
 refine T.cond rfl (fun hc4 => ?_) (fun hc4 => ?_)
 ·have H := ifT hc4 H
  refine T.conseq (fr' := [(4, _)]) ?_ ⟨rfl, trivial⟩ (fun _ s => s)
  refine T.seq fun K4 hK4 => ?_
  refine T.region ?_
  refine RS.p (Pu.build (cells := [_, _, _, _, _, _, _, _, _, _, _]) st26 rfl rfl) rfl rfl ?_
  refine RS.solid (Sd.stB (cs' := [_, _, _, _, _, _, _, _, _, _, _]) 1 ty26 rfl rfl rfl rfl rfl rfl rfl rfl) rfl rfl fun _ => ?_
  refine RS.p (Pu.assign rfl) rfl rfl ?_
  refine RS.nil (hK4 _ _ ?_)
  obtain rfl := Option.some.inj H
  refine T.rt (Cont.retCT 1 rfl ty26 rfl rfl rfl rfl fun w' s => ?_)
  exact ⟨⟨(none, 0), (none, 0), (none, 0), (none, 0), (.slice none 0 0)⟩, rfl, (((((s.nilRowG (α := Inp) 35).nilRowG (α := Inp) 35).nilRow (α := Int) 3).nilRow (α := Int) 3).nilOsl (α := UInt64) 36).pick [2, 3, 4, 5, 6] (by decide) rfl⟩
 ·have H := ifB hc4 H
  refine T.conseq (fr' := [(1, _), (2, _), (4, _)]) ?_ ⟨rfl, rfl, rfl, trivial⟩ (fun _ s => s)
  refine T.seq fun K5 hK5 => ?_
  refine T.region ?_
  refine RS.q (Qt.ldBA (us := [_, _, _, _, _, _, _, _, _, _, _]) 0 ty26 rfl rfl rfl rfl) rfl rfl ?_
  obtain ⟨x5, hx5, H⟩ := bindE H
  refine RS.q (Qt.call (vs := [.agg #[.int .i64 a0_p.id, .int .i64 a0_p.players, .int .i64 a0_p.delay, .int .i64 a0_p.turn, .int .i64 a0_p.said, .slice p0 a0_p.mine.length c0, .slice p1 a0_p.inputs.length c1, .slice p2 a0_p.has.length c2, .slice p3 a0_p.acked.length c3, .slice p4 a0_p.hashes.length c4, .bool a0_p.split]]) ent37 rfl fun w s => peer_can_walk a0_p w ((Rd.base h0) w s) ((Rd.base h1) w s) ((Rd.base h2) w s) ((Rd.base h3) w s) ((Rd.base h4) w s) hx5) rfl rfl ?_
  refine RS.p (Pu.not rfl) rfl rfl ?_
  refine RS.p (Pu.assign rfl) rfl rfl ?_
  refine RS.nil (hK5 _ _ ?_)
  refine T.cond rfl (fun hc6 => ?_) (fun hc6 => ?_)
  ·have H := ifT hc6 H
   refine T.conseq (fr' := [(4, _)]) ?_ ⟨rfl, trivial⟩ (fun _ s => s)
   refine T.seq fun K6 hK6 => ?_
   refine T.region ?_
   refine RS.p (Pu.build (cells := [_, _, _, _, _, _, _, _, _, _, _]) st26 rfl rfl) rfl rfl ?_
   refine RS.solid (Sd.stB (cs' := [_, _, _, _, _, _, _, _, _, _, _]) 1 ty26 rfl rfl rfl rfl rfl rfl rfl rfl) rfl rfl fun _ => ?_
   refine RS.p (Pu.assign rfl) rfl rfl ?_
   refine RS.nil (hK6 _ _ ?_)
   obtain rfl := Option.some.inj H
   refine T.rt (Cont.retCT 1 rfl ty26 rfl rfl rfl rfl fun w' s => ?_)
   exact ⟨⟨(none, 0), (none, 0), (none, 0), (none, 0), (.slice none 0 0)⟩, rfl, (((((s.nilRowG (α := Inp) 35).nilRowG (α := Inp) 35).nilRow (α := Int) 3).nilRow (α := Int) 3).nilOsl (α := UInt64) 36).pick [2, 3, 4, 5, 6] (by decide) rfl⟩
  ·have H := ifB hc6 H
   refine T.skip (hK2 _ _ (T.conseq (fr' := [(1, _), (2, _), (4, _)]) ?_ ⟨rfl, rfl, rfl, trivial⟩ (fun _ s => s)))
   refine T.seq fun K7 hK7 => ?_
   refine T.region ?_
   refine RS.q (Qt.ldBA (us := [_, _, _, _, _, _, _, _, _, _, _]) 0 ty26 rfl rfl rfl rfl) rfl rfl ?_
   obtain ⟨x7, hx7, H⟩ := bindE H
   refine RS.solid (Sd.callN (vs := [.agg #[.int .i64 a0_p.id, .int .i64 a0_p.players, .int .i64 a0_p.delay, .int .i64 a0_p.turn, .int .i64 a0_p.said, .slice p0 a0_p.mine.length c0, .slice p1 a0_p.inputs.length c1, .slice p2 a0_p.has.length c2, .slice p3 a0_p.acked.length c3, .slice p4 a0_p.hashes.length c4, .bool a0_p.split]]) ent32 rfl (fun w s => peer_Own_walk a0_p w ((Rd.base h0) w s) ((Rd.base h1) w s) ((Rd.base h2) w s) ((Rd.base h3) w s) ((Rd.base h4) w s) hx7)) rfl rfl fun ⟨q8, q9, q10, q11, q12⟩ => ?_
   refine RS.solid (Sd.stB (cs' := [_, _, _, _, _, _, _, _, _, _, _]) 0 ty26 rfl rfl rfl rfl rfl rfl rfl rfl) rfl rfl fun _ => ?_
   refine RS.nil (hK7 _ _ ?_)
   refine T.seq fun K8 hK8 => ?_
   try dsimp only [List.set, List.cons_append, List.nil_append]
   refine T.region ?_
   refine RS.p (Pu.fieldAddr fd26_6 rfl) rfl rfl ?_
   refine RS.q (Qt.ldB 0 ty22 rfl rfl rfl) rfl rfl ?_
   refine RS.p (Pu.fieldAddr fd26_3 rfl) rfl rfl ?_
   refine RS.q (Qt.ldB 0 ty3 rfl rfl rfl) rfl rfl ?_
   obtain ⟨x13, hx13, H⟩ := bindE H
   refine RS.solid (Sd.callN (vs := [rowV q9 x7.inputs.length, .int .i64 x7.turn]) ent38 rfl (fun w s => turns_Part_walk x7.inputs x7.turn w ((Rd.ofG 3 rfl) w s) hx13)) rfl rfl fun ⟨q14, q15⟩ => ?_
   refine RS.p (Pu.move rfl) rfl rfl ?_
   refine RS.p (Pu.extract rfl rfl) rfl rfl ?_
   refine RS.p (Pu.extract rfl rfl) rfl rfl ?_
   refine RS.p (Pu.fieldAddr fd26_6 rfl) rfl rfl ?_
   refine RS.solid (Sd.stB (cs' := [_, _, _, _, _, _, _, _, _, _, _]) 0 ty22 rfl rfl rfl rfl rfl rfl rfl rfl) rfl rfl fun _ => ?_
   refine RS.nil (hK8 _ _ (T.conseq (fr' := [(1, _), (2, _), (4, _)]) ?_ ⟨rfl, rfl, rfl, trivial⟩ (fun _ s => s)))
   refine T.seq fun K9 hK9 => ?_
   try dsimp only [List.set, List.cons_append, List.nil_append]
   refine T.region ?_
   refine RS.p (Pu.fieldAddr fd26_3 rfl) rfl rfl ?_
   refine RS.q (Qt.ldB 0 ty3 rfl rfl rfl) rfl rfl ?_
   obtain ⟨g16, H⟩ := gdE H
   refine RS.p (Pu.addS rfl rfl g16) rfl rfl ?_
   refine RS.p (Pu.fieldAddr fd26_3 rfl) rfl rfl ?_
   refine RS.solid (Sd.stB (cs' := [_, _, _, _, _, _, _, _, _, _, _]) 0 ty3 rfl rfl rfl rfl rfl rfl rfl rfl) rfl rfl fun _ => ?_
   refine RS.nil (hK9 _ _ (T.conseq (fr' := [(1, _), (2, _), (4, _)]) ?_ ⟨rfl, rfl, rfl, trivial⟩ (fun _ s => s)))
   refine T.seq fun K10 hK10 => ?_
   refine T.seq fun K11 hK11 => ?_
   try dsimp only [List.set, List.cons_append, List.nil_append]
   refine T.region ?_
   refine RS.p (Pu.fieldAddr fd26_9 rfl) rfl rfl ?_
   refine RS.q (Qt.ldB 0 ty24 rfl rfl rfl) rfl rfl ?_
   refine RS.p (Pu.move rfl) rfl rfl ?_
   refine RS.solid (Sd.litS (cs := [_]) sl24 zr36 rfl rfl rfl rfl rfl) rfl rfl fun b17 => ?_
   obtain ⟨g19, H⟩ := gdE H
   refine RS.solid (Sd.app1c (α := UInt64) 6 9 a1_h rfl rfl (nilH_lt _) sl24 zr36 rfl rfl rfl rfl g19 (by decide)) rfl rfl fun q18 => ?_
   refine RS.p (Pu.fieldAddr fd26_9 rfl) rfl rfl ?_
   refine RS.solid (Sd.stB (cs' := [_, _, _, _, _, _, _, _, _, _, _]) 0 ty24 rfl rfl rfl rfl rfl rfl rfl rfl) rfl rfl fun _ => ?_
   refine RS.nil (hK11 _ _ (T.conseq (fr' := [(2, _), (4, _)]) ?_ ⟨rfl, rfl, trivial⟩ (fun _ s => s)))
   refine T.seq fun K12 hK12 => ?_
   try dsimp only [List.set, List.cons_append, List.nil_append]
   refine T.region ?_
   refine RS.p (Pu.fieldAddr fd26_9 rfl) rfl rfl ?_
   refine RS.q (Qt.ldB 0 ty24 rfl rfl rfl) rfl rfl ?_
   refine RS.p (Pu.lenSl sl24 rfl) rfl rfl ?_
   refine RS.p (Pu.bin rfl rfl rfl) rfl rfl ?_
   refine RS.nil (hK12 _ _ ?_)
   refine T.condP rfl (fun hc20 => ?_) (fun hc20 => ?_)
   ·have H := ifT hc20 H
    refine T.conseq (fr' := [(2, _), (4, _)]) ?_ ⟨rfl, rfl, trivial⟩ (fun _ s => s)
    try dsimp only [List.set, List.cons_append, List.nil_append]
    refine T.region ?_
    refine RS.p (Pu.fieldAddr fd26_9 rfl) rfl rfl ?_
    refine RS.q (Qt.ldB 0 ty24 rfl rfl rfl) rfl rfl ?_
    obtain ⟨g21, H⟩ := gdE H
    refine RS.know (fun w s => (s.row_fits (q := q18) (m := (x7.hashes ++ [a1_h]).length) (k := 6) rfl)) fun hf22 => ?_
    refine RS.p (Pu.sliceL sl24 rfl rfl g21) rfl rfl ?_
    refine RS.weakS (fun w s => (Sat.oslDrop (sz := 1) 6 (1 : Int).toNat (Sat.rowOsl (q := q18) (m := (x7.hashes ++ [a1_h]).length) 6 s rfl) rfl (le_nat g21) rfl)) ?_
    refine RS.p (Pu.fieldAddr fd26_9 rfl) rfl rfl ?_
    refine RS.solid (Sd.stB (cs' := [_, _, _, _, _, _, _, _, _, _, _]) 0 ty24 rfl rfl rfl rfl rfl rfl rfl rfl) rfl rfl fun _ => ?_
    refine RS.nil (hK10 _ _ (T.conseq (fr' := [(2, _), (4, _)]) ?_ ⟨rfl, rfl, trivial⟩ (fun _ s => s)))
    refine T.seq fun K13 hK13 => ?_
    try dsimp only [List.set, List.cons_append, List.nil_append]
    refine T.region ?_
    refine RS.q (Qt.ldBA (us := [_, _, _, _, _, _, _, _, _, _, _]) 0 ty26 rfl rfl rfl rfl) rfl rfl ?_
    refine RS.solid (Sd.stB (cs' := [_, _, _, _, _, _, _, _, _, _, _]) 1 ty26 rfl rfl rfl rfl rfl rfl rfl rfl) rfl rfl fun _ => ?_
    refine RS.p (Pu.assign rfl) rfl rfl ?_
    refine RS.nil (hK13 _ _ ?_)
    obtain rfl := Option.some.inj H
    try dsimp only [List.set, List.cons_append, List.nil_append]
    refine T.rt (Cont.retCT 1 rfl ty26 rfl rfl rfl rfl fun w' s => ?_)
    exact ⟨⟨q8, q15, q10, q11, (.slice (cutP (q18.1.map fun g => (⟨g, 0, none⟩ : Addr)) q18.2 ((1 : Int).toNat) 1) (((x7.hashes ++ [a1_h]).length) - (1 : Int).toNat) (q18.2 - (1 : Int).toNat))⟩, rfl, s.pick [2, 8, 4, 5, 6] (by decide) rfl⟩
   ·have H := ifF hc20 H
    refine T.skip (hK10 _ _ (T.conseq (fr' := [(2, _), (4, _)]) ?_ ⟨rfl, rfl, trivial⟩ (fun _ s => s)))
    refine T.seq fun K14 hK14 => ?_
    try dsimp only [List.set, List.cons_append, List.nil_append]
    refine T.region ?_
    refine RS.q (Qt.ldBA (us := [_, _, _, _, _, _, _, _, _, _, _]) 0 ty26 rfl rfl rfl rfl) rfl rfl ?_
    refine RS.solid (Sd.stB (cs' := [_, _, _, _, _, _, _, _, _, _, _]) 1 ty26 rfl rfl rfl rfl rfl rfl rfl rfl) rfl rfl fun _ => ?_
    refine RS.p (Pu.assign rfl) rfl rfl ?_
    refine RS.nil (hK14 _ _ ?_)
    obtain rfl := Option.some.inj H
    try dsimp only [List.set, List.cons_append, List.nil_append]
    refine T.rt (Cont.retCT 1 rfl ty26 rfl rfl rfl rfl fun w' s => ?_)
    exact ⟨⟨q8, q15, q10, q11, (rowV q18 ((x7.hashes ++ [a1_h]).length))⟩, rfl, (Sat.rowOsl (q := q18) (m := (x7.hashes ++ [a1_h]).length) 6 s rfl).pick [2, 8, 4, 5, 6] (by decide) rfl⟩
theorem peer_Say_walk (a0_p : Per) (a1_l : List Cmd) (w : World) {v0 v1 v2 v3 v4 v5 : Value} (h0 : R (hpOf w) a0_p.mine [v0]) (h1 : R (hpOf w) a0_p.inputs [v1]) (h2 : R (hpOf w) a0_p.has [v2]) (h3 : R (hpOf w) a0_p.acked [v3]) (h4 : R (hpOf w) a0_p.hashes [v4]) (h5 : R (hpOf w) a1_l [v5]) {r : Per × Int} (H : peer_Say a0_p a1_l = some r) : Calls Try.prog 12 #[.agg #[.int .i64 a0_p.id, .int .i64 a0_p.players, .int .i64 a0_p.delay, .int .i64 a0_p.turn, .int .i64 a0_p.said, v0, v1, v2, v3, v4, .bool a0_p.split], v5] w fun e w' => ∃ g : (Option Nat × Nat) × (Option Nat × Nat) × (Option Nat × Nat) × (Option Nat × Nat) × (Option Nat × Nat), e = .returned (.tuple #[.agg #[.int .i64 r.1.id, .int .i64 r.1.players, .int .i64 r.1.delay, .int .i64 r.1.turn, .int .i64 r.1.said, rowV g.1 r.1.mine.length, rowV g.2.1 r.1.inputs.length, rowV g.2.2.1 r.1.has.length, rowV g.2.2.2.1 r.1.acked.length, rowV g.2.2.2.2 r.1.hashes.length, .bool r.1.split], .int .i64 r.2]) ∧ Sat w [drow 35 (rowV g.1 r.1.mine.length) r.1.mine, drow 35 (rowV g.2.1 r.1.inputs.length) r.1.inputs, row nilH 3 (rowV g.2.2.1 r.1.has.length) r.1.has, row nilH 3 (rowV g.2.2.2.1 r.1.acked.length) r.1.acked, row nilH 36 (rowV g.2.2.2.2 r.1.hashes.length) r.1.hashes] w' := by
 have hm0 := R_max h0
 obtain ⟨p0, c0, rfl⟩ := R_form h0
 have hm1 := R_max h1
 obtain ⟨p1, c1, rfl⟩ := R_form h1
 have hm2 := R_max h2
 obtain ⟨p2, c2, rfl⟩ := R_form h2
 have hm3 := R_max h3
 obtain ⟨p3, c3, rfl⟩ := R_form h3
 have hm4 := R_max h4
 obtain ⟨p4, c4, rfl⟩ := R_form h4
 have hm5 := R_max h5
 obtain ⟨p5, c5, rfl⟩ := R_form h5
 unfold peer_Say at H
 refine T.enter (args := [_, _]) (S := Sat w []) Try.func12 rfl rfl (Sat.start w) ?_
 refine T.seq fun K1 hK1 => ?_
 refine T.region ?_
 refine RS.solid (Sd.box (cs := [_, _, _, _, _, _, _, _, _, _, _]) rfl rfl) rfl rfl fun b1 => ?_
 refine RS.solid (Sd.alloc zr26 rfl) rfl rfl fun b2 => ?_
 refine RS.p (Pu.assign rfl) rfl rfl ?_
 refine RS.nil (hK1 _ _ ?_)
 refine T.seq fun K2 hK2 => ?_
 refine T.block ?_
 refine T.seq fun K3 hK3 => ?_
 refine T.region ?_
 refine RS.q (Qt.ldBA (us := [_, _, _, _, _, _, _, _, _, _, _]) 0 ty26 rfl rfl rfl rfl) rfl rfl ?_
 obtain ⟨x3, hx3, H⟩ := bindE H
 refine RS.q (Qt.call (vs := [.agg #[.int .i64 a0_p.id, .int .i64 a0_p.players, .int .i64 a0_p.delay, .int .i64 a0_p.turn, .int .i64 a0_p.said, .slice p0 a0_p.mine.length c0, .slice p1 a0_p.inputs.length c1, .slice p2 a0_p.has.length c2, .slice p3 a0_p.acked.length c3, .slice p4 a0_p.hashes.length c4, .bool a0_p.split]]) ent30 rfl fun w s => peer_May_walk a0_p w ((Rd.base h0) w s) ((Rd.base h1) w s) ((Rd.base h2) w s) ((Rd.base h3) w s) ((Rd.base h4) w s) hx3) rfl rfl ?_
 refine RS.p (Pu.not rfl) rfl rfl ?_
 refine RS.p (Pu.assign rfl) rfl rfl ?_
 refine RS.nil (hK3 _ _ ?_)
 refine T.cond rfl (fun hc4 => ?_) (fun hc4 => ?_)
 ·have H := ifT hc4 H
  refine T.conseq (fr' := [(4, _)]) ?_ ⟨rfl, trivial⟩ (fun _ s => s)
  refine T.seq fun K4 hK4 => ?_
  refine T.region ?_
  refine RS.p (Pu.build (cells := [_, _, _, _, _, _, _, _, _, _, _]) st26 rfl rfl) rfl rfl ?_
  refine RS.solid (Sd.stB (cs' := [_, _, _, _, _, _, _, _, _, _, _]) 1 ty26 rfl rfl rfl rfl rfl rfl rfl rfl) rfl rfl fun _ => ?_
  refine RS.p (Pu.assign rfl) rfl rfl ?_
  refine RS.nil (hK4 _ _ ?_)
  obtain rfl := Option.some.inj H
  refine T.rt (Cont.retCT 1 rfl ty26 rfl rfl rfl rfl fun w' s => ?_)
  exact ⟨⟨(none, 0), (none, 0), (none, 0), (none, 0), (none, 0)⟩, rfl, (((((s.nilRowG (α := Inp) 35).nilRowG (α := Inp) 35).nilRow (α := Int) 3).nilRow (α := Int) 3).nilRow (α := UInt64) 36).pick [2, 3, 4, 5, 6] (by decide) rfl⟩
 ·have H := ifB hc4 H
  refine T.conseq (fr' := [(1, _), (2, _), (4, _)]) ?_ ⟨rfl, rfl, rfl, trivial⟩ (fun _ s => s)
  refine T.seq fun K5 hK5 => ?_
  refine T.region ?_
  refine RS.p (Pu.fieldAddr fd26_4 rfl) rfl rfl ?_
  refine RS.q (Qt.ldB 0 ty3 rfl rfl rfl) rfl rfl ?_
  refine RS.p (Pu.fieldAddr fd26_3 rfl) rfl rfl ?_
  refine RS.q (Qt.ldB 0 ty3 rfl rfl rfl) rfl rfl ?_
  refine RS.p (Pu.fieldAddr fd26_2 rfl) rfl rfl ?_
  refine RS.q (Qt.ldB 0 ty3 rfl rfl rfl) rfl rfl ?_
  obtain ⟨g5, H⟩ := gdE H
  refine RS.p (Pu.addS rfl rfl g5) rfl rfl ?_
  obtain ⟨g6, H⟩ := gdE H
  refine RS.p (Pu.subS rfl rfl g6) rfl rfl ?_
  refine RS.p (Pu.bin rfl rfl rfl) rfl rfl ?_
  refine RS.p (Pu.move rfl) rfl rfl ?_
  refine RS.joinV 4 26 (.bool (decide ((a0_p.said = ((a0_p.turn + a0_p.delay) - 1)) ∨ (a0_p.said = 1099511627776)))) [(1, _), (2, _), (4, _)] ⟨rfl, rfl, rfl, trivial⟩ ?_ ?_
  ·refine RS.p (Pu.assign rfl) rfl rfl ?_
   refine RS.nil (hK5 _ _ ?_)
   refine T.condP rfl (fun hc9 => ?_) (fun hc9 => ?_)
   ·have H := ifT hc9 H
    refine T.conseq (fr' := [(4, _)]) ?_ ⟨rfl, trivial⟩ (fun _ s => s)
    refine T.seq fun K6 hK6 => ?_
    refine T.region ?_
    refine RS.p (Pu.build (cells := [_, _, _, _, _, _, _, _, _, _, _]) st26 rfl rfl) rfl rfl ?_
    refine RS.solid (Sd.stB (cs' := [_, _, _, _, _, _, _, _, _, _, _]) 1 ty26 rfl rfl rfl rfl rfl rfl rfl rfl) rfl rfl fun _ => ?_
    refine RS.p (Pu.assign rfl) rfl rfl ?_
    refine RS.nil (hK6 _ _ ?_)
    obtain rfl := Option.some.inj H
    refine T.rt (Cont.retCT 1 rfl ty26 rfl rfl rfl rfl fun w' s => ?_)
    exact ⟨⟨(none, 0), (none, 0), (none, 0), (none, 0), (none, 0)⟩, rfl, (((((s.nilRowG (α := Inp) 35).nilRowG (α := Inp) 35).nilRow (α := Int) 3).nilRow (α := Int) 3).nilRow (α := UInt64) 36).pick [2, 3, 4, 5, 6] (by decide) rfl⟩
   ·have H := ifF hc9 H
    refine T.seq fun K7 hK7 => ?_
    refine T.region ?_
    refine RS.p (Pu.fieldAddr fd26_0 rfl) rfl rfl ?_
    refine RS.q (Qt.ldB 0 ty3 rfl rfl rfl) rfl rfl ?_
    refine RS.p (Pu.move rfl) rfl rfl ?_
    obtain ⟨x10, hx10, H⟩ := bindE H
    refine RS.q (Qt.call (vs := [.int .i64 a0_p.id, .slice p5 a1_l.length c5]) ent39 rfl fun w s => turns_Said_walk a0_p.id a1_l w ((Rd.base h5) w s) hx10) rfl rfl ?_
    refine RS.p (Pu.not rfl) rfl rfl ?_
    refine RS.p (Pu.assign rfl) rfl rfl ?_
    refine RS.nil (hK7 _ _ ?_)
    refine T.cond rfl (fun hc11 => ?_) (fun hc11 => ?_)
    ·have H := ifT hc11 H
     refine T.conseq (fr' := [(4, _)]) ?_ ⟨rfl, trivial⟩ (fun _ s => s)
     refine T.seq fun K8 hK8 => ?_
     refine T.region ?_
     refine RS.p (Pu.build (cells := [_, _, _, _, _, _, _, _, _, _, _]) st26 rfl rfl) rfl rfl ?_
     refine RS.solid (Sd.stB (cs' := [_, _, _, _, _, _, _, _, _, _, _]) 1 ty26 rfl rfl rfl rfl rfl rfl rfl rfl) rfl rfl fun _ => ?_
     refine RS.p (Pu.assign rfl) rfl rfl ?_
     refine RS.nil (hK8 _ _ ?_)
     obtain rfl := Option.some.inj H
     refine T.rt (Cont.retCT 1 rfl ty26 rfl rfl rfl rfl fun w' s => ?_)
     exact ⟨⟨(none, 0), (none, 0), (none, 0), (none, 0), (none, 0)⟩, rfl, (((((s.nilRowG (α := Inp) 35).nilRowG (α := Inp) 35).nilRow (α := Int) 3).nilRow (α := Int) 3).nilRow (α := UInt64) 36).pick [2, 3, 4, 5, 6] (by decide) rfl⟩
    ·have H := ifB hc11 H
     refine T.skip (hK2 _ _ (T.conseq (fr' := [(1, _), (2, _), (4, _)]) ?_ ⟨rfl, rfl, rfl, trivial⟩ (fun _ s => s)))
     refine T.seq fun K9 hK9 => ?_
     refine T.region ?_
     refine RS.q (Qt.ldBA (us := [_, _, _, _, _, _, _, _, _, _, _]) 0 ty26 rfl rfl rfl rfl) rfl rfl ?_
     obtain ⟨x12, hx12, H⟩ := bindE H
     refine RS.solid (Sd.callN (vs := [.agg #[.int .i64 a0_p.id, .int .i64 a0_p.players, .int .i64 a0_p.delay, .int .i64 a0_p.turn, .int .i64 a0_p.said, .slice p0 a0_p.mine.length c0, .slice p1 a0_p.inputs.length c1, .slice p2 a0_p.has.length c2, .slice p3 a0_p.acked.length c3, .slice p4 a0_p.hashes.length c4, .bool a0_p.split]]) ent32 rfl (fun w s => peer_Own_walk a0_p w ((Rd.base h0) w s) ((Rd.base h1) w s) ((Rd.base h2) w s) ((Rd.base h3) w s) ((Rd.base h4) w s) hx12)) rfl rfl fun ⟨q13, q14, q15, q16, q17⟩ => ?_
     refine RS.solid (Sd.stB (cs' := [_, _, _, _, _, _, _, _, _, _, _]) 0 ty26 rfl rfl rfl rfl rfl rfl rfl rfl) rfl rfl fun _ => ?_
     refine RS.nil (hK9 _ _ ?_)
     refine T.seq fun K10 hK10 => ?_
     try dsimp only [List.set, List.cons_append, List.nil_append]
     refine T.region ?_
     refine RS.p (Pu.fieldAddr fd26_4 rfl) rfl rfl ?_
     refine RS.q (Qt.ldB 0 ty3 rfl rfl rfl) rfl rfl ?_
     obtain ⟨g18, H⟩ := gdE H
     refine RS.p (Pu.addS rfl rfl g18) rfl rfl ?_
     refine RS.p (Pu.fieldAddr fd26_4 rfl) rfl rfl ?_
     refine RS.solid (Sd.stB (cs' := [_, _, _, _, _, _, _, _, _, _, _]) 0 ty3 rfl rfl rfl rfl rfl rfl rfl rfl) rfl rfl fun _ => ?_
     refine RS.nil (hK10 _ _ (T.conseq (fr' := [(1, _), (2, _), (4, _)]) ?_ ⟨rfl, rfl, rfl, trivial⟩ (fun _ s => s)))
     refine T.seq fun K11 hK11 => ?_
     try dsimp only [List.set, List.cons_append, List.nil_append]
     refine T.region ?_
     refine RS.p (Pu.fieldAddr fd26_4 rfl) rfl rfl ?_
     refine RS.q (Qt.ldB 0 ty3 rfl rfl rfl) rfl rfl ?_
     refine RS.p (Pu.fieldAddr fd26_0 rfl) rfl rfl ?_
     refine RS.q (Qt.ldB 0 ty3 rfl rfl rfl) rfl rfl ?_
     refine RS.p (Pu.move rfl) rfl rfl ?_
     refine RS.p (Pu.build (cells := [_, _, _]) st35 rfl rfl) rfl rfl ?_
     refine RS.solid (Sd.alloc zr35 rfl) rfl rfl fun b19 => ?_
     refine RS.solid (Sd.stB (cs' := [_, _, _]) 7 ty35 rfl rfl rfl rfl rfl rfl rfl rfl) rfl rfl fun _ => ?_
     refine RS.nil (hK11 _ _ (T.conseq (fr' := [(2, _), (4, _), (6, _)]) ?_ ⟨rfl, rfl, rfl, trivial⟩ (fun _ s => s)))
     refine T.seq fun K12 hK12 => ?_
     try dsimp only [List.set, List.cons_append, List.nil_append]
     refine T.region ?_
     refine RS.p (Pu.fieldAddr fd26_6 rfl) rfl rfl ?_
     refine RS.q (Qt.ldB 0 ty22 rfl rfl rfl) rfl rfl ?_
     refine RS.q (Qt.ldBA (us := [_, _, _]) 7 ty35 rfl rfl rfl rfl) rfl rfl ?_
     obtain ⟨x20, hx20, H⟩ := bindE H
     refine RS.solid (Sd.callN (vs := [rowV q14 x12.inputs.length, .agg #[.int .i64 (x12.said + 1), .int .i64 x12.id, .slice p5 a1_l.length c5]]) ent33 rfl (fun w s => turns_In_walk x12.inputs (⟨(x12.said + 1), x12.id, a1_l⟩ : Inp) w ((Rd.ofG 3 rfl) w s) ((Rd.base h5) w s) hx20)) rfl rfl fun q21 => ?_
     refine RS.p (Pu.move rfl) rfl rfl ?_
     refine RS.p (Pu.extract rfl rfl) rfl rfl ?_
     refine RS.p (Pu.extract rfl rfl) rfl rfl ?_
     refine RS.p (Pu.fieldAddr fd26_6 rfl) rfl rfl ?_
     refine RS.solid (Sd.stB (cs' := [_, _, _, _, _, _, _, _, _, _, _]) 0 ty22 rfl rfl rfl rfl rfl rfl rfl rfl) rfl rfl fun _ => ?_
     refine RS.nil (hK12 _ _ (T.conseq (fr' := [(2, _), (4, _), (6, _)]) ?_ ⟨rfl, rfl, rfl, trivial⟩ (fun _ s => s)))
     refine T.seq fun K13 hK13 => ?_
     refine T.seq fun K14 hK14 => ?_
     try dsimp only [List.set, List.cons_append, List.nil_append]
     refine T.region ?_
     refine RS.p (Pu.fieldAddr fd26_1 rfl) rfl rfl ?_
     refine RS.q (Qt.ldB 0 ty3 rfl rfl rfl) rfl rfl ?_
     refine RS.p (Pu.bin rfl rfl rfl) rfl rfl ?_
     refine RS.nil (hK14 _ _ ?_)
     refine T.joinE (σ := List Inp) (γ := (Option Nat × Nat)) H (fun s => s) [(2, _), (4, _)] ⟨rfl, rfl, trivial⟩ (fun v23 q24 => []) (fun v23 q24 => Sat w [blk b1 [.int .i64 x12.id, .int .i64 x12.players, .int .i64 x12.delay, .int .i64 x12.turn, .int .i64 (x12.said + 1), rowV q24 v23.length, rowV q21 x20.1.length, rowV q15 x12.has.length, rowV q16 x12.acked.length, rowV q17 x12.hashes.length, .bool x12.split] 26, blk b2 [.int .i64 0, .int .i64 0, .int .i64 0, .int .i64 0, .int .i64 0, .slice none 0 0, .slice none 0 0, .slice none 0 0, .slice none 0 0, .slice none 0 0, .bool false] 26, drow 35 (rowV q24 v23.length) v23, drow 35 (rowV q14 x12.inputs.length) x12.inputs, row nilH 3 (rowV q15 x12.has.length) x12.has, row nilH 3 (rowV q16 x12.acked.length) x12.acked, row nilH 36 (rowV q17 x12.hashes.length) x12.hashes, blk b19 [.int .i64 (x12.said + 1), .int .i64 x12.id, .slice p5 a1_l.length c5] 35, drow 35 (rowV q21 x20.1.length) x20.1]) ?_ ?_
     ·rintro v23 q24 H
      try dsimp only [Ex.then] at H
      refine Cont.conseq (fr' := [(2, _), (4, _)]) ?_ ⟨rfl, rfl, trivial⟩ (fun _ s => s)
      refine id (hK13 _ _ ?_)
      refine T.seq fun K15 hK15 => ?_
      try dsimp only [List.set, List.cons_append, List.nil_append]
      refine T.weakS (S' := Sat w [blk b1 [.int .i64 x12.id, .int .i64 x12.players, .int .i64 x12.delay, .int .i64 x12.turn, .int .i64 (x12.said + 1), rowV q24 v23.length, rowV q21 x20.1.length, rowV q15 x12.has.length, rowV q16 x12.acked.length, rowV q17 x12.hashes.length, .bool x12.split] 26, blk b2 [.int .i64 0, .int .i64 0, .int .i64 0, .int .i64 0, .int .i64 0, .slice none 0 0, .slice none 0 0, .slice none 0 0, .slice none 0 0, .slice none 0 0, .bool false] 26, drow 35 (rowV q24 v23.length) v23, drow 35 (rowV q14 x12.inputs.length) x12.inputs, row nilH 3 (rowV q15 x12.has.length) x12.has, row nilH 3 (rowV q16 x12.acked.length) x12.acked, row nilH 36 (rowV q17 x12.hashes.length) x12.hashes, blk b19 [.int .i64 (x12.said + 1), .int .i64 x12.id, .slice p5 a1_l.length c5] 35, drow 35 (rowV q21 x20.1.length) x20.1]) (fun w s => s) ?_
      refine T.drawnS [0, 1, 2, 3, 6, 7, 8] [(0, .pu), (1, .rd), (2, .pu), (3, .rd), (4, .pu), (5, .pu), (6, .wk), (7, .pu), (8, .wk), (9, .pu), (10, .pu), (11, .rd), (12, .pu), (13, .wk), (14, .pu), (15, .br), (16, .pu), (17, .br)] mixed (by kernel_rfl) rfl ?_
      refine RD.p (fun w s => s.pick [0, 1, 2, 3, 6, 7, 8] (by decide) rfl) rfl (Pu.fieldAddr fd26_7 rfl) rfl rfl ?_
      refine RD.q (fun w s => s.pick [0, 1, 2, 3, 6, 7, 8] (by decide) rfl) rfl (Qt.ldB 0 ty23 rfl rfl rfl) rfl rfl ?_
      refine RD.p (fun w s => s.pick [0, 1, 2, 3, 6, 7, 8] (by decide) rfl) rfl (Pu.fieldAddr fd26_0 rfl) rfl rfl ?_
      refine RD.q (fun w s => s.pick [0, 1, 2, 3, 6, 7, 8] (by decide) rfl) rfl (Qt.ldB 0 ty3 rfl rfl rfl) rfl rfl ?_
      obtain ⟨g25, H⟩ := gdE H
      refine RD.p (fun w s => s.pick [0, 1, 2, 3, 6, 7, 8] (by decide) rfl) rfl (Pu.subS rfl rfl g25) rfl rfl ?_
      refine RD.p (fun w s => s.pick [0, 1, 2, 3, 6, 7, 8] (by decide) rfl) rfl (Pu.fieldAddr fd26_8 rfl) rfl rfl ?_
      refine RD.w (fun w s => s.pick [0, 1, 2, 3, 6, 7, 8] (by decide) rfl) rfl (Qt.ldB 0 ty23 rfl rfl rfl) rfl rfl ?_
      refine RD.p (fun w s => s.pick [0, 1, 2, 3, 6, 7, 8] (by decide) rfl) rfl (Pu.fieldAddr fd26_0 rfl) rfl rfl ?_
      refine RD.w (fun w s => s.pick [0, 1, 2, 3, 6, 7, 8] (by decide) rfl) rfl (Qt.ldB 0 ty3 rfl rfl rfl) rfl rfl ?_
      obtain ⟨g26, H⟩ := gdE H
      refine RD.p (fun w s => s.pick [0, 1, 2, 3, 6, 7, 8] (by decide) rfl) rfl (Pu.subS rfl rfl g26) rfl rfl ?_
      refine RD.p (fun w s => s.pick [0, 1, 2, 3, 6, 7, 8] (by decide) rfl) rfl (Pu.fieldAddr fd26_4 rfl) rfl rfl ?_
      refine RD.q (fun w s => s.pick [0, 1, 2, 3, 6, 7, 8] (by decide) rfl) rfl (Qt.ldB 0 ty3 rfl rfl rfl) rfl rfl ?_
      refine RD.p (fun w s => s.pick [0, 1, 2, 3, 6, 7, 8] (by decide) rfl) rfl (Pu.fieldAddr fd26_4 rfl) rfl rfl ?_
      refine RD.w (fun w s => s.pick [0, 1, 2, 3, 6, 7, 8] (by decide) rfl) rfl (Qt.ldB 0 ty3 rfl rfl rfl) rfl rfl ?_
      obtain ⟨g27, H⟩ := gdE H
      refine RD.know (p := ∃ g cap, q15 = (some g, cap)) (fun w s => (s.row_some (k := 4) rfl (pos_of g27))) ?_
      rintro ⟨gg28, cc29, rfl⟩
      refine RD.p (fun w s => s.pick [0, 1, 2, 3, 6, 7, 8] (by decide) rfl) rfl (Pu.indexSl sl23 rfl rfl g27) rfl rfl ?_
      refine RD.solid rfl (.inr rfl) rfl rfl (Sd.st0 (α := Int) 4 (x12.said + 1) rfl ty3 rfl rfl rfl g27 rfl rfl (by decide) rfl (by rintro _ _ rfl; rfl)) (fun _ => ClE.sat _ _) (fun _ w s => s.pick [0, 1, 2, 3, 6, 7, 8] (by decide) rfl) (fun h => nomatch h) fun _ => ?_
      obtain ⟨g30, H⟩ := gdE H
      refine RD.know (p := ∃ g cap, q16 = (some g, cap)) (fun w s => (s.row_some (k := 5) rfl (pos_of g30))) ?_
      rintro ⟨gg31, cc32, rfl⟩
      refine RD.p (fun w s => s.pick [0, 1, 2, 3, 6, 7, 8] (by decide) rfl) rfl (Pu.indexSl sl23 rfl rfl g30) rfl rfl ?_
      refine RD.solid rfl (.inr rfl) rfl rfl (Sd.st0 (α := Int) 5 (x12.said + 1) rfl ty3 rfl rfl rfl g30 rfl rfl (by decide) rfl (by rintro _ _ rfl; rfl)) (fun _ => ClE.sat _ _) (fun _ w s => s.pick [0, 1, 2, 3, 6, 7, 8] (by decide) rfl) (fun h => nomatch h) fun _ => ?_
      refine RD.nil (hK15 _ _ (T.conseq (fr' := [(2, _), (4, _)]) ?_ ⟨rfl, rfl, trivial⟩ (fun _ s => s)))
      refine T.seq fun K16 hK16 => ?_
      try dsimp only [List.set, List.cons_append, List.nil_append]
      refine T.region ?_
      refine RS.q (Qt.ldBA (us := [_, _, _, _, _, _, _, _, _, _, _]) 0 ty26 rfl rfl rfl rfl) rfl rfl ?_
      refine RS.solid (Sd.stB (cs' := [_, _, _, _, _, _, _, _, _, _, _]) 1 ty26 rfl rfl rfl rfl rfl rfl rfl rfl) rfl rfl fun _ => ?_
      refine RS.p (Pu.assign rfl) rfl rfl ?_
      refine RS.nil (hK16 _ _ ?_)
      obtain rfl := Option.some.inj H
      try dsimp only [List.set, List.cons_append, List.nil_append]
      refine T.rt (Cont.retCT 1 rfl ty26 rfl rfl rfl rfl fun w' s => ?_)
      exact ⟨⟨q24, q21, (some gg28, cc29), (some gg31, cc32), q17⟩, (by simp only [(s.row_fits (q := (some gg28, cc29)) (m := x12.has.length) (k := 4) rfl).1, (s.row_fits (q := (some gg31, cc32)) (m := x12.acked.length) (k := 5) rfl).1]; try rfl), (Sat.relen (q := (some gg31, cc32)) (m := x12.acked.length) 5 (Sat.relen (q := (some gg28, cc29)) (m := x12.has.length) 4 s rfl) rfl).pick [2, 8, 4, 5, 6] (by decide) rfl⟩
     ·intro z22 H HX22 hJ22
      refine T.condP rfl (fun hc33 => ?_) (fun hc33 => ?_)
      ·have H := ifT hc33 H
       refine T.conseq (fr' := [(2, _), (4, _), (6, _)]) ?_ ⟨rfl, rfl, rfl, trivial⟩ (fun _ s => s)
       try dsimp only [List.set, List.cons_append, List.nil_append]
       refine T.weakS (S' := Sat w [blk b1 [.int .i64 x12.id, .int .i64 x12.players, .int .i64 x12.delay, .int .i64 x12.turn, .int .i64 (x12.said + 1), rowV q13 x12.mine.length, rowV q21 x20.1.length, rowV q15 x12.has.length, rowV q16 x12.acked.length, rowV q17 x12.hashes.length, .bool x12.split] 26, blk b2 [.int .i64 0, .int .i64 0, .int .i64 0, .int .i64 0, .int .i64 0, .slice none 0 0, .slice none 0 0, .slice none 0 0, .slice none 0 0, .slice none 0 0, .bool false] 26, drow 35 (rowV q13 x12.mine.length) x12.mine, drow 35 (rowV q14 x12.inputs.length) x12.inputs, row nilH 3 (rowV q15 x12.has.length) x12.has, row nilH 3 (rowV q16 x12.acked.length) x12.acked, row nilH 36 (rowV q17 x12.hashes.length) x12.hashes, blk b19 [.int .i64 (x12.said + 1), .int .i64 x12.id, .slice p5 a1_l.length c5] 35, drow 35 (rowV q21 x20.1.length) x20.1]) (fun w s => s) ?_
       refine T.drawnS [1, 3, 4, 5, 6, 7, 8] [(0, .pu), (1, .rd), (2, .wk), (3, .so), (4, .so), (5, .br), (6, .pu), (7, .br)] mixed (by kernel_rfl) rfl ?_
       refine RD.p (fun w s => s.pick [1, 3, 4, 5, 6, 7, 8] (by decide) rfl) rfl (Pu.fieldAddr fd26_5 rfl) rfl rfl ?_
       refine RD.q (fun w s => s.pick [1, 3, 4, 5, 6, 7, 8] (by decide) rfl) rfl (Qt.ldB 0 ty22 rfl rfl rfl) rfl rfl ?_
       refine RD.w (fun w s => s.pick [1, 3, 4, 5, 6, 7, 8] (by decide) rfl) rfl (Qt.ldBA (us := [_, _, _]) 5 ty35 rfl rfl rfl rfl) rfl rfl ?_
       obtain ⟨x34, hx34, H⟩ := bindE H
       refine RD.solid rfl (.inl rfl) rfl rfl (Sd.callN (vs := [.agg #[.int .i64 (x12.said + 1), .int .i64 x12.id, .slice p5 a1_l.length c5]]) ent40 rfl (fun w s => turns_Own_walk (⟨(x12.said + 1), x12.id, a1_l⟩ : Inp) w ((Rd.base h5) w s) hx34)) (fun _ => ClE.sat _ _) (fun _ w s => s.pick [1, 3, 4, 5, 6, 7, 8] (by decide) rfl) (fun _ _ _ s => s.drop1) fun q35 => ?_
       refine RD.solid rfl (.inl rfl) rfl rfl (Sd.litS (cs := [_, _, _]) sl22 zr35 rfl rfl rfl rfl rfl) (fun _ => ClE.sat _ _) (fun _ w s => s.pick [1, 3, 4, 5, 6, 7, 8] (by decide) rfl) (fun _ _ _ s => s.drop1) fun b36 => ?_
       obtain ⟨g38, H⟩ := gdE H
       refine RD.solid rfl (.inr rfl) rfl rfl (Sd.pre (fun w s => (Sat.starAt 9 11 (Sat.starAt 9 12 ((s.noStars).noStars) rfl rfl (by decide)) rfl rfl (by decide))) (Sd.appL (α := Inp) 2 10 9 ([x34] : List Inp) rfl rfl rfl (DRF.cons' (α := Inp) (x := x34) (fun _ h => ⟨_, rfl, h⟩) DRF.nil') rfl sl22 zr35 rfl rfl rfl rfl g38 (by decide))) (fun _ => ClE.sat _ _) (fun _ w s => s.pick [1, 3, 4, 5, 6, 7, 8] (by decide) rfl) (fun h => nomatch h) fun q37 => ?_
       refine RD.p (fun w s => s.pick [1, 3, 4, 5, 6, 7, 8] (by decide) rfl) rfl (Pu.fieldAddr fd26_5 rfl) rfl rfl ?_
       refine RD.solid rfl (.inr rfl) rfl rfl (Sd.stB (cs' := [_, _, _, _, _, _, _, _, _, _, _]) 0 ty22 rfl rfl rfl rfl rfl rfl rfl rfl) (fun _ => ClE.sat _ _) (fun _ w s => s.pick [1, 3, 4, 5, 6, 7, 8] (by decide) rfl) (fun h => nomatch h) fun _ => ?_
       obtain rfl := Option.some.inj H
       refine RD.nil (hJ22 _ _ (x12.mine ++ ([x34] : List Inp)) q37 HX22 ⟨rfl, rfl, trivial⟩ trivial (fun w s => s.pick [0, 1, 2, 3, 4, 5, 6, 7, 8] (by decide) rfl))
      ·have H := ifF hc33 H
       obtain rfl := Option.some.inj H
       refine T.skip (hJ22 _ _ x12.mine q13 HX22 ⟨rfl, rfl, trivial⟩ trivial (fun w s => s))
  ·intro hJ8
   refine RS.splitP 22 rfl (fun hc7 => ?_) (fun hc7 => ?_)
   ·refine RS.no rfl rfl ?_
    refine RS.no rfl rfl ?_
    refine RS.no rfl rfl ?_
    refine RS.p (Pu.pickT rfl rfl) rfl rfl ?_
    exact hJ8 _ _ ⟨dOrT hc7, rfl, rfl, rfl, trivial⟩ (fun w s => s)
   ·refine RS.p (Pu.fieldAddr fd26_4 rfl) rfl rfl ?_
    refine RS.q (Qt.ldB 0 ty3 rfl rfl rfl) rfl rfl ?_
    refine RS.p (Pu.bin rfl rfl rfl) rfl rfl ?_
    refine RS.p (Pu.pickF rfl rfl) rfl rfl ?_
    exact hJ8 _ _ ⟨dOrF hc7, rfl, rfl, rfl, trivial⟩ (fun w s => s)
end Go.Proofs.Ytnadebijiaelkaa
