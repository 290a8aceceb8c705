/-
  Walk of PeerNews.
-/
import Derived.Test.YtlpmiledfcblfaaRows
import Derived.Test.YtlpmiledfcblfaaPJ
import Derived.Test.YtlpmiledfcblfaaPG1
set_option linter.unusedVariables false
set_option linter.unusedSimpArgs false
set_option maxRecDepth 20000
set_option maxHeartbeats 4000000
namespace Go.Proofs.Ytlpmiledfcblfaa
open Go.Vg
open Enc (R)
theorem ar23 : arTy Try.prog 23 = some (3, 3, 1) := by kernel_rfl
theorem ent14 : Ent Try.prog 14 := ⟨_, _, Try.func14, by kernel_rfl, rfl⟩
theorem ent17 : Ent Try.prog 17 := ⟨_, _, Try.func17, by kernel_rfl, rfl⟩
theorem ent18 : Ent Try.prog 18 := ⟨_, _, Try.func18, by kernel_rfl, rfl⟩
theorem sl22 : slTy Try.prog 22 = some (23, 3, 24) := by kernel_rfl
theorem thronglaw28_PeerNews_walk (a0_l : List Pr3) (w : World) {v0 : Value} (h0 : R (hpOf w) a0_l [v0]) {r : Bool} (H : thronglaw28_PeerNews a0_l = some r) : Calls Try.prog 3 #[v0] w fun e w' => e = .returned (.bool r) ∧ Ext w w' := by
 have hm0 := R_max h0
 obtain ⟨p0, c0, rfl⟩ := R_form h0
 unfold thronglaw28_PeerNews at H
 refine T.enter (args := [_]) (S := Sat w []) Try.func3 rfl rfl (Sat.start w) ?_
 refine T.seq fun K1 hK1 => ?_
 refine T.region ?_
 refine RS.p (Pu.assign rfl) rfl rfl ?_
 refine RS.nil (hK1 _ _ ?_)
 refine T.seq fun K2 hK2 => ?_
 refine T.seq fun K3 hK3 => ?_
 refine T.region ?_
 refine RS.p (Pu.assign rfl) rfl rfl ?_
 refine RS.nil (hK3 _ _ ?_)
 refine T.joinE (σ := Unit) (γ := Unit) H Ex.go [] trivial (fun _ _ => []) (fun _ _ => Sat w []) ?_ ?_
 ·rintro ⟨⟩ ⟨⟩ H
  try dsimp only [Ex.then] at H
  refine Cont.conseq (fr' := []) ?_ trivial (fun _ s => s)
  refine id (hK2 _ _ ?_)
  refine T.seq fun K4 hK4 => ?_
  refine T.region ?_
  obtain ⟨x2, hx2, H⟩ := bindE H
  refine RS.q (Qt.call (vs := []) ent18 rfl fun w s => thronglaw28_wakes_walk  w  hx2) rfl rfl ?_
  refine RS.p (Pu.assign rfl) rfl rfl ?_
  refine RS.nil (hK4 _ _ ?_)
  obtain rfl := Option.some.inj H
  refine T.retTo (by with_reducible ((repeat (first | apply RetTo.seq | apply RetTo.blk)); exact RetTo.refl _)) (Cont.ret1 rfl rfl fun w' s => ?_)
  exact ⟨rfl, s.ext⟩
 ·intro z1 hz1 HX1 hJ1
  refine T.block ?_
  refine T.loopA (γ := Unit) hz1 [(0, _)] (fun v3 _ => [(3, .int .i64 v3)]) (fun v3 _ => Sat w []) () ⟨rfl, trivial⟩ ⟨rfl, trivial⟩ (fun w s => s) ?_
  rintro v3 ⟨⟩ y4 H hd1 KL1 hL1
  try dsimp only [Ex.then] at H
  refine T.conseq (fr' := [(3, _), (0, _)]) ?_ ⟨rfl, rfl, trivial⟩ (fun _ s => s)
  refine T.seq fun K5 hK5 => ?_
  refine T.seq fun K6 hK6 => ?_
  refine T.region ?_
  refine RS.p (Pu.move rfl) rfl rfl ?_
  refine RS.p (Pu.move rfl) rfl rfl ?_
  refine RS.p (Pu.lenSl sl22 rfl) rfl rfl ?_
  refine RS.p (Pu.bin rfl rfl rfl) rfl rfl ?_
  refine RS.p (Pu.move rfl) rfl rfl ?_
  refine RS.joinV 3 18 (.bool (decide ((v3 < (a0_l.length : Int)) ∧ (v3 < 40)))) [(0, _), (3, _)] ⟨rfl, rfl, trivial⟩ ?_ ?_
  ·refine RS.nil (hK6 _ _ ?_)
   refine T.condP rfl (fun hc7 => ?_) (fun hc7 => ?_)
   ·have H := ifT hc7 H
    refine T.skip (hK5 _ _ ?_)
    refine T.seq fun K7 hK7 => ?_
    refine T.block ?_
    refine T.seq fun K8 hK8 => ?_
    refine T.drawn (fun _ => True) [(0, .pu), (1, .pu), (2, .pu), (3, .pu), (4, .rd), (5, .pu), (6, .pu), (7, .pu), (8, .pu), (9, .rd), (10, .pu), (11, .pu), (12, .pu), (13, .pu), (14, .rd), (15, .pu), (16, .pu), (17, .pu)] mixed (ClE.sat _ _) (by kernel_rfl) ?_
    refine RD.p (fun _ _ => trivial) rfl (Pu.move rfl) rfl rfl ?_
    refine RD.p (fun _ _ => trivial) rfl (Pu.move rfl) rfl rfl ?_
    obtain ⟨g8, H⟩ := gdE H
    obtain ⟨bl9, ol10, rfl⟩ := R_ptr h0 (ne_of_pos (pos_of g8))
    refine RD.p (fun _ _ => trivial) rfl (Pu.indexSl sl22 rfl rfl g8) rfl rfl ?_
    refine RD.p (fun _ _ => trivial) rfl (Pu.indexAr ar23 rfl rfl (by omega)) rfl rfl ?_
    refine RD.q (fun _ _ => trivial) rfl (Qt.ldF (α := Pr3) (Rd.base h0) ty3 rfl rfl g8 (by rintro _ _ rfl; rfl)) rfl rfl ?_
    refine RD.p (fun _ _ => trivial) rfl (Pu.move rfl) rfl rfl ?_
    refine RD.p (fun _ _ => trivial) rfl (Pu.move rfl) rfl rfl ?_
    obtain ⟨g11, H⟩ := gdE H
    refine RD.p (fun _ _ => trivial) rfl (Pu.indexSl sl22 rfl rfl g11) rfl rfl ?_
    refine RD.p (fun _ _ => trivial) rfl (Pu.indexAr ar23 rfl rfl (by omega)) rfl rfl ?_
    refine RD.q (fun _ _ => trivial) rfl (Qt.ldF (α := Pr3) (Rd.base h0) ty3 rfl rfl g11 (by rintro _ _ rfl; rfl)) rfl rfl ?_
    refine RD.p (fun _ _ => trivial) rfl (Pu.move rfl) rfl rfl ?_
    refine RD.p (fun _ _ => trivial) rfl (Pu.move rfl) rfl rfl ?_
    obtain ⟨g12, H⟩ := gdE H
    refine RD.p (fun _ _ => trivial) rfl (Pu.indexSl sl22 rfl rfl g12) rfl rfl ?_
    refine RD.p (fun _ _ => trivial) rfl (Pu.indexAr ar23 rfl rfl (by omega)) rfl rfl ?_
    refine RD.q (fun _ _ => trivial) rfl (Qt.ldF (α := Pr3) (Rd.base h0) ty3 rfl rfl g12 (by rintro _ _ rfl; rfl)) rfl rfl ?_
    refine RD.p (fun _ _ => trivial) rfl (Pu.assign rfl) rfl rfl ?_
    refine RD.p (fun _ _ => trivial) rfl (Pu.assign rfl) rfl rfl ?_
    refine RD.p (fun _ _ => trivial) rfl (Pu.assign rfl) rfl rfl ?_
    refine RD.nil (hK8 _ _ (T.conseq (fr' := [(0, _), (3, _), (4, _), (5, _), (6, _)]) ?_ ⟨rfl, rfl, rfl, rfl, rfl, trivial⟩ (fun _ s => s)))
    refine T.seq fun K9 hK9 => ?_
    refine T.region ?_
    refine RS.p (Pu.build (cells := [_, _, _, _, _, _, _, _, _, _, _]) st28 rfl rfl) rfl rfl ?_
    refine RS.solid (Sd.alloc zr28 rfl) rfl rfl fun b13 => ?_
    refine RS.weakS (fun w s => (s.nilRowG (α := Inp) 50)) ?_
    refine RS.weakS (fun w s => (s.nilRowG (α := Inp) 50)) ?_
    refine RS.weakS (fun w s => (s.nilRow (α := Int) 3)) ?_
    refine RS.weakS (fun w s => (s.nilRow (α := Int) 3)) ?_
    refine RS.weakS (fun w s => (s.nilRow (α := UInt64) 67)) ?_
    refine RS.p (Pu.assign rfl) rfl rfl ?_
    refine RS.solid (Sd.stB (cs' := [_, _, _, _, _, _, _, _, _, _, _]) 0 ty28 rfl rfl rfl rfl rfl rfl rfl rfl) rfl rfl fun _ => ?_
    refine RS.nil (hK9 _ _ ?_)
    refine T.seq fun K10 hK10 => ?_
    refine T.seq fun K11 hK11 => ?_
    refine T.region ?_
    refine RS.p (Pu.move rfl) rfl rfl ?_
    refine RS.p (Pu.bin rfl rfl rfl) rfl rfl ?_
    refine RS.p (Pu.move rfl) rfl rfl ?_
    refine RS.joinV 3 42 (.bool (decide ((1 ≤ (gi a0_l v3).b) ∧ ((gi a0_l v3).b ≤ 8)))) [(0, _), (3, _), (4, _), (5, _), (6, _), (7, _), (8, _)] ⟨rfl, rfl, rfl, rfl, rfl, rfl, rfl, trivial⟩ ?_ ?_
    ·refine RS.p (Pu.move rfl) rfl rfl ?_
     refine RS.joinV 3 46 (.bool (decide (((1 ≤ (gi a0_l v3).b) ∧ ((gi a0_l v3).b ≤ 8)) ∧ (1 ≤ (gi a0_l v3).a)))) [(0, _), (3, _), (4, _), (5, _), (6, _), (7, _), (8, _)] ⟨rfl, rfl, rfl, rfl, rfl, rfl, rfl, trivial⟩ ?_ ?_
     ·refine RS.p (Pu.move rfl) rfl rfl ?_
      refine RS.joinV 4 51 (.bool (decide ((((1 ≤ (gi a0_l v3).b) ∧ ((gi a0_l v3).b ≤ 8)) ∧ (1 ≤ (gi a0_l v3).a)) ∧ ((gi a0_l v3).a ≤ (gi a0_l v3).b)))) [(0, _), (3, _), (4, _), (5, _), (6, _), (7, _), (8, _)] ⟨rfl, rfl, rfl, rfl, rfl, rfl, rfl, trivial⟩ ?_ ?_
      ·refine RS.p (Pu.move rfl) rfl rfl ?_
       refine RS.joinV 3 55 (.bool (decide (((((1 ≤ (gi a0_l v3).b) ∧ ((gi a0_l v3).b ≤ 8)) ∧ (1 ≤ (gi a0_l v3).a)) ∧ ((gi a0_l v3).a ≤ (gi a0_l v3).b)) ∧ (1 ≤ (gi a0_l v3).c)))) [(0, _), (3, _), (4, _), (5, _), (6, _), (7, _), (8, _)] ⟨rfl, rfl, rfl, rfl, rfl, rfl, rfl, trivial⟩ ?_ ?_
       ·refine RS.p (Pu.move rfl) rfl rfl ?_
        refine RS.joinV 3 59 (.bool (decide ((((((1 ≤ (gi a0_l v3).b) ∧ ((gi a0_l v3).b ≤ 8)) ∧ (1 ≤ (gi a0_l v3).a)) ∧ ((gi a0_l v3).a ≤ (gi a0_l v3).b)) ∧ (1 ≤ (gi a0_l v3).c)) ∧ ((gi a0_l v3).c ≤ 8)))) [(0, _), (3, _), (4, _), (5, _), (6, _), (7, _), (8, _)] ⟨rfl, rfl, rfl, rfl, rfl, rfl, rfl, trivial⟩ ?_ ?_
        ·refine RS.nil (hK11 _ _ ?_)
         refine T.joinE (σ := Int × Int × Int × Int × Int × Int × Bool × List Inp × List Inp × List Int × List Int × List UInt64) (γ := (Option Nat × Nat) × (Option Nat × Nat) × (Option Nat × Nat) × (Option Nat × Nat) × (Option Nat × Nat)) H (fun s => s) [(0, _), (3, _), (4, _), (5, _), (6, _), (8, _)] ⟨rfl, rfl, rfl, rfl, rfl, rfl, trivial⟩ (fun (v25, v26, v27, v28, v29, v30, v31, v32, v34, v36, v38, v40) (q33, q35, q37, q39, q41) => [(7, .int .i64 v25)]) (fun (v25, v26, v27, v28, v29, v30, v31, v32, v34, v36, v38, v40) (q33, q35, q37, q39, q41) => Sat w [blk b13 [.int .i64 v26, .int .i64 v27, .int .i64 v28, .int .i64 v29, .int .i64 v30, rowV q33 v32.length, rowV q35 v34.length, rowV q37 v36.length, rowV q39 v38.length, rowV q41 v40.length, .bool v31] 28, drow 50 (rowV (none, 0) 0) ([] : List Inp), drow 50 (rowV (none, 0) 0) ([] : List Inp), row nilH 3 (rowV (none, 0) 0) ([] : List Int), row nilH 3 (rowV (none, 0) 0) ([] : List Int), row nilH 67 (rowV (none, 0) 0) ([] : List UInt64), drow 50 (rowV q33 v32.length) v32, drow 50 (rowV q35 v34.length) v34, row nilH 3 (rowV q37 v36.length) v36, row nilH 3 (rowV q39 v38.length) v38, row nilH 67 (rowV q41 v40.length) v40]) ?_ ?_
         ·rintro ⟨v25, v26, v27, v28, v29, v30, v31, v32, v34, v36, v38, v40⟩ ⟨q33, q35, q37, q39, q41⟩ H
          try dsimp only [Ex.then] at H
          refine Cont.conseq (fr' := [(7, _), (0, _), (3, _), (4, _), (5, _), (6, _), (8, _)]) ?_ ⟨rfl, rfl, rfl, rfl, rfl, rfl, rfl, trivial⟩ (fun _ s => s)
          refine id (hK10 _ _ ?_)
          refine T.seq fun K12 hK12 => ?_
          refine T.weakS (S' := Sat w [blk b13 [.int .i64 v26, .int .i64 v27, .int .i64 v28, .int .i64 v29, .int .i64 v30, rowV q33 v32.length, rowV q35 v34.length, rowV q37 v36.length, rowV q39 v38.length, rowV q41 v40.length, .bool v31] 28, drow 50 (rowV (none, 0) 0) ([] : List Inp), drow 50 (rowV (none, 0) 0) ([] : List Inp), row nilH 3 (rowV (none, 0) 0) ([] : List Int), row nilH 3 (rowV (none, 0) 0) ([] : List Int), row nilH 67 (rowV (none, 0) 0) ([] : List UInt64), drow 50 (rowV q33 v32.length) v32, drow 50 (rowV q35 v34.length) v34, row nilH 3 (rowV q37 v36.length) v36, row nilH 3 (rowV q39 v38.length) v38, row nilH 67 (rowV q41 v40.length) v40]) (fun w s => s) ?_
          refine T.region ?_
          refine RS.p (Pu.move rfl) rfl rfl ?_
          refine RS.p (Pu.move rfl) rfl rfl ?_
          refine RS.p (Pu.move rfl) rfl rfl ?_
          obtain ⟨x42, hx42, H⟩ := bindE H
          refine RS.solid (Sd.callN (vs := [.int .i64 ((gi a0_l v3).a), .int .i64 ((gi a0_l v3).b), .int .i64 ((gi a0_l v3).c)]) ent15 rfl (fun w s => peer_New_walk ((gi a0_l v3).a) ((gi a0_l v3).b) ((gi a0_l v3).c) w  hx42)) rfl rfl fun ⟨q43, q44, q45, q46, q47⟩ => ?_
          refine RS.p (Pu.move rfl) rfl rfl ?_
          refine RS.p (Pu.extract rfl rfl) rfl rfl ?_
          refine RS.p (Pu.extract rfl rfl) rfl rfl ?_
          refine RS.solid (Sd.alloc zr28 rfl) rfl rfl fun b48 => ?_
          refine RS.weakS (fun w s => (s.nilRowG (α := Inp) 50)) ?_
          refine RS.weakS (fun w s => (s.nilRowG (α := Inp) 50)) ?_
          refine RS.weakS (fun w s => (s.nilRow (α := Int) 3)) ?_
          refine RS.weakS (fun w s => (s.nilRow (α := Int) 3)) ?_
          refine RS.weakS (fun w s => (s.nilRow (α := UInt64) 67)) ?_
          refine RS.solid (Sd.stB (cs' := [_, _, _, _, _, _, _, _, _, _, _]) 16 ty28 rfl rfl rfl rfl rfl rfl rfl rfl) rfl rfl fun _ => ?_
          refine RS.p (Pu.assign rfl) rfl rfl ?_
          refine RS.nil (hK12 _ _ (T.conseq (fr' := [(0, _), (3, _), (7, _), (8, _), (9, _), (10, _)]) ?_ ⟨rfl, rfl, rfl, rfl, rfl, rfl, trivial⟩ (fun _ s => s)))
          refine T.seq fun K13 hK13 => ?_
          refine T.weakS (S' := Sat w [blk b13 [.int .i64 v26, .int .i64 v27, .int .i64 v28, .int .i64 v29, .int .i64 v30, rowV q33 v32.length, rowV q35 v34.length, rowV q37 v36.length, rowV q39 v38.length, rowV q41 v40.length, .bool v31] 28, drow 50 (rowV (none, 0) 0) ([] : List Inp), drow 50 (rowV (none, 0) 0) ([] : List Inp), row nilH 3 (rowV (none, 0) 0) ([] : List Int), row nilH 3 (rowV (none, 0) 0) ([] : List Int), row nilH 67 (rowV (none, 0) 0) ([] : List UInt64), drow 50 (rowV q33 v32.length) v32, drow 50 (rowV q35 v34.length) v34, row nilH 3 (rowV q37 v36.length) v36, row nilH 3 (rowV q39 v38.length) v38, row nilH 67 (rowV q41 v40.length) v40, drow 50 (rowV q43 x42.1.mine.length) x42.1.mine, drow 50 (rowV q44 x42.1.inputs.length) x42.1.inputs, row nilH 3 (rowV q45 x42.1.has.length) x42.1.has, row nilH 3 (rowV q46 x42.1.acked.length) x42.1.acked, row nilH 67 (rowV q47 x42.1.hashes.length) x42.1.hashes, blk b48 [.int .i64 x42.1.id, .int .i64 x42.1.players, .int .i64 x42.1.delay, .int .i64 x42.1.turn, .int .i64 x42.1.said, rowV q43 x42.1.mine.length, rowV q44 x42.1.inputs.length, rowV q45 x42.1.has.length, rowV q46 x42.1.acked.length, rowV q47 x42.1.hashes.length, .bool x42.1.split] 28, drow 50 (rowV (none, 0) 0) ([] : List Inp), drow 50 (rowV (none, 0) 0) ([] : List Inp), row nilH 3 (rowV (none, 0) 0) ([] : List Int), row nilH 3 (rowV (none, 0) 0) ([] : List Int), row nilH 67 (rowV (none, 0) 0) ([] : List UInt64)]) (fun w s => s) ?_
          refine T.region ?_
          refine RS.p (Pu.move rfl) rfl rfl ?_
          obtain ⟨x49, hx49, H⟩ := bindE H
          refine RS.q (Qt.call (vs := [.int .i64 x42.2]) ent16 rfl fun w s => thronglaw28_num_walk x42.2 w  hx49) rfl rfl ?_
          refine RS.p (Pu.move rfl) rfl rfl ?_
          refine RS.p (Pu.bin rfl rfl rfl) rfl rfl ?_
          refine RS.p (Pu.move rfl) rfl rfl ?_
          refine RS.joinB H 5 80 (fun b52 => .bool b52) [(0, _), (3, _)] ⟨rfl, rfl, trivial⟩ ?_ ?_
          ·intro b52 H
           refine RS.nil (hK13 _ _ ?_)
           refine T.cond rfl (fun hc53 => ?_) (fun hc53 => ?_)
           ·have H := ifT hc53 H
            refine T.conseq (fr' := []) ?_ trivial (fun _ s => s)
            refine T.seq fun K14 hK14 => ?_
            refine T.region ?_
            refine RS.p (Pu.assign rfl) rfl rfl ?_
            refine RS.nil (hK14 _ _ ?_)
            obtain rfl := hd1 _ H
            have H := HX1
            obtain rfl := Option.some.inj H
            refine T.weakS (S' := Sat w [blk b13 [.int .i64 v26, .int .i64 v27, .int .i64 v28, .int .i64 v29, .int .i64 v30, rowV q33 v32.length, rowV q35 v34.length, rowV q37 v36.length, rowV q39 v38.length, rowV q41 v40.length, .bool v31] 28, drow 50 (rowV (none, 0) 0) ([] : List Inp), drow 50 (rowV (none, 0) 0) ([] : List Inp), row nilH 3 (rowV (none, 0) 0) ([] : List Int), row nilH 3 (rowV (none, 0) 0) ([] : List Int), row nilH 67 (rowV (none, 0) 0) ([] : List UInt64), drow 50 (rowV q33 v32.length) v32, drow 50 (rowV q35 v34.length) v34, row nilH 3 (rowV q37 v36.length) v36, row nilH 3 (rowV q39 v38.length) v38, row nilH 67 (rowV q41 v40.length) v40, drow 50 (rowV q43 x42.1.mine.length) x42.1.mine, drow 50 (rowV q44 x42.1.inputs.length) x42.1.inputs, row nilH 3 (rowV q45 x42.1.has.length) x42.1.has, row nilH 3 (rowV q46 x42.1.acked.length) x42.1.acked, row nilH 67 (rowV q47 x42.1.hashes.length) x42.1.hashes, blk b48 [.int .i64 x42.1.id, .int .i64 x42.1.players, .int .i64 x42.1.delay, .int .i64 x42.1.turn, .int .i64 x42.1.said, rowV q43 x42.1.mine.length, rowV q44 x42.1.inputs.length, rowV q45 x42.1.has.length, rowV q46 x42.1.acked.length, rowV q47 x42.1.hashes.length, .bool x42.1.split] 28, drow 50 (rowV (none, 0) 0) ([] : List Inp), drow 50 (rowV (none, 0) 0) ([] : List Inp), row nilH 3 (rowV (none, 0) 0) ([] : List Int), row nilH 3 (rowV (none, 0) 0) ([] : List Int), row nilH 67 (rowV (none, 0) 0) ([] : List UInt64)]) (fun w s => s) ?_
            refine T.retTo (by with_reducible ((repeat (first | apply RetTo.seq | apply RetTo.blk)); exact RetTo.refl _)) (Cont.ret1 rfl rfl fun w' s => ?_)
            exact ⟨rfl, s.ext⟩
           ·have H := ifB hc53 H
            refine T.skip (hK7 _ _ ?_)
            refine T.weakS (S' := Sat w [blk b13 [.int .i64 v26, .int .i64 v27, .int .i64 v28, .int .i64 v29, .int .i64 v30, rowV q33 v32.length, rowV q35 v34.length, rowV q37 v36.length, rowV q39 v38.length, rowV q41 v40.length, .bool v31] 28, drow 50 (rowV (none, 0) 0) ([] : List Inp), drow 50 (rowV (none, 0) 0) ([] : List Inp), row nilH 3 (rowV (none, 0) 0) ([] : List Int), row nilH 3 (rowV (none, 0) 0) ([] : List Int), row nilH 67 (rowV (none, 0) 0) ([] : List UInt64), drow 50 (rowV q33 v32.length) v32, drow 50 (rowV q35 v34.length) v34, row nilH 3 (rowV q37 v36.length) v36, row nilH 3 (rowV q39 v38.length) v38, row nilH 67 (rowV q41 v40.length) v40, drow 50 (rowV q43 x42.1.mine.length) x42.1.mine, drow 50 (rowV q44 x42.1.inputs.length) x42.1.inputs, row nilH 3 (rowV q45 x42.1.has.length) x42.1.has, row nilH 3 (rowV q46 x42.1.acked.length) x42.1.acked, row nilH 67 (rowV q47 x42.1.hashes.length) x42.1.hashes, blk b48 [.int .i64 x42.1.id, .int .i64 x42.1.players, .int .i64 x42.1.delay, .int .i64 x42.1.turn, .int .i64 x42.1.said, rowV q43 x42.1.mine.length, rowV q44 x42.1.inputs.length, rowV q45 x42.1.has.length, rowV q46 x42.1.acked.length, rowV q47 x42.1.hashes.length, .bool x42.1.split] 28, drow 50 (rowV (none, 0) 0) ([] : List Inp), drow 50 (rowV (none, 0) 0) ([] : List Inp), row nilH 3 (rowV (none, 0) 0) ([] : List Int), row nilH 3 (rowV (none, 0) 0) ([] : List Int), row nilH 67 (rowV (none, 0) 0) ([] : List UInt64)]) (fun w s => s) ?_
            refine T.region ?_
            refine RS.p (Pu.move rfl) rfl rfl ?_
            obtain ⟨g54, H⟩ := gdE H
            refine RS.p (Pu.addS rfl rfl g54) rfl rfl ?_
            refine RS.p (Pu.assign rfl) rfl rfl ?_
            refine RS.nil (hL1 _ _ (v3 + 1) () H ⟨rfl, trivial⟩ ⟨rfl, trivial⟩ (fun w s => s.pick [] (by decide) rfl))
          ·intro z55 H hJ51
           refine RS.splitP 75 rfl (fun hc50 => ?_) (fun hc50 => ?_)
           ·have H := ifT hc50 H
            refine RS.no rfl rfl ?_
            refine RS.no rfl rfl ?_
            refine RS.no rfl rfl ?_
            refine RS.no rfl rfl ?_
            refine RS.p (Pu.pickT rfl rfl) rfl rfl ?_
            obtain rfl := Option.some.inj H
            exact hJ51 _ _ ⟨rfl, rfl, rfl, trivial⟩ (fun w s => s)
           ·have H := ifF hc50 H
            refine RS.q (Qt.ldBA (us := [_, _, _, _, _, _, _, _, _, _, _]) 16 ty28 rfl rfl rfl rfl) rfl rfl ?_
            refine RS.q (Qt.ldBA (us := [_, _, _, _, _, _, _, _, _, _, _]) 0 ty28 rfl rfl rfl rfl) rfl rfl ?_
            obtain ⟨x56, hx56, H⟩ := bindE H
            refine RS.q (Qt.call (vs := [.agg #[.int .i64 x42.1.id, .int .i64 x42.1.players, .int .i64 x42.1.delay, .int .i64 x42.1.turn, .int .i64 x42.1.said, rowV q43 x42.1.mine.length, rowV q44 x42.1.inputs.length, rowV q45 x42.1.has.length, rowV q46 x42.1.acked.length, rowV q47 x42.1.hashes.length, .bool x42.1.split], .agg #[.int .i64 v26, .int .i64 v27, .int .i64 v28, .int .i64 v29, .int .i64 v30, rowV q33 v32.length, rowV q35 v34.length, rowV q37 v36.length, rowV q39 v38.length, rowV q41 v40.length, .bool v31]]) ent17 rfl fun w s => throngref0_EqPeer_walk x42.1 (⟨v26, v27, v28, v29, v30, v32, v34, v36, v38, v40, v31⟩ : Per) w ((Rd.ofG 11 rfl) w s) ((Rd.ofG 12 rfl) w s) ((Rd.ofRowN 13 rfl) w s) ((Rd.ofRowN 14 rfl) w s) ((Rd.ofRowN 15 rfl) w s) ((Rd.ofG 6 rfl) w s) ((Rd.ofG 7 rfl) w s) ((Rd.ofRowN 8 rfl) w s) ((Rd.ofRowN 9 rfl) w s) ((Rd.ofRowN 10 rfl) w s) hx56) rfl rfl ?_
            refine RS.p (Pu.not rfl) rfl rfl ?_
            refine RS.p (Pu.pickF rfl rfl) rfl rfl ?_
            obtain rfl := Option.some.inj H
            exact hJ51 _ _ ⟨rfl, rfl, rfl, trivial⟩ (fun w s => s)
         ·intro z24 H HX24 hJ24
          refine T.condP rfl (fun hc57 => ?_) (fun hc57 => ?_)
          ·have H := ifT hc57 H
           refine T.region ?_
           refine RS.p (Pu.move rfl) rfl rfl ?_
           refine RS.p (Pu.move rfl) rfl rfl ?_
           refine RS.p (Pu.move rfl) rfl rfl ?_
           obtain ⟨x58, hx58, H⟩ := bindE H
           refine RS.solid (Sd.callN (vs := [.int .i64 ((gi a0_l v3).a), .int .i64 ((gi a0_l v3).b), .int .i64 ((gi a0_l v3).c)]) ent14 rfl (fun w s => throngref27_New_walk ((gi a0_l v3).a) ((gi a0_l v3).b) ((gi a0_l v3).c) w  hx58)) rfl rfl fun ⟨q59, q60, q61, q62, q63⟩ => ?_
           refine RS.p (Pu.assign rfl) rfl rfl ?_
           refine RS.solid (Sd.stB (cs' := [_, _, _, _, _, _, _, _, _, _, _]) 0 ty28 rfl rfl rfl rfl rfl rfl rfl rfl) rfl rfl fun _ => ?_
           obtain rfl := Option.some.inj H
           refine RS.nil (hJ24 _ _ (0, x58.id, x58.players, x58.delay, x58.turn, x58.said, x58.split, x58.mine, x58.inputs, x58.has, x58.acked, x58.hashes) (q59, q60, q61, q62, q63) HX24 ⟨rfl, rfl, rfl, rfl, rfl, rfl, trivial⟩ ⟨rfl, trivial⟩ (fun w s => s))
          ·have H := ifF hc57 H
           obtain rfl := Option.some.inj H
           refine T.skip (hJ24 _ _ (1, 0, 0, 0, 0, 0, false, [], [], [], [], []) ((none, 0), (none, 0), (none, 0), (none, 0), (none, 0)) HX24 ⟨rfl, rfl, rfl, rfl, rfl, rfl, trivial⟩ ⟨rfl, trivial⟩ (fun w s => (((((s.nilRowG (α := Inp) 50).nilRowG (α := Inp) 50).nilRow (α := Int) 3).nilRow (α := Int) 3).nilRow (α := UInt64) 67).pick [0, 1, 2, 3, 4, 5, 6, 7, 8, 9, 10] (by decide) rfl))
        ·intro hJ23
         refine RS.splitP 56 rfl (fun hc22 => ?_) (fun hc22 => ?_)
         ·refine RS.p (Pu.move rfl) rfl rfl ?_
          refine RS.p (Pu.bin rfl rfl rfl) rfl rfl ?_
          refine RS.p (Pu.pickT rfl rfl) rfl rfl ?_
          exact hJ23 _ _ ⟨dAndT hc22, rfl, rfl, rfl, rfl, rfl, rfl, rfl, trivial⟩ (fun w s => s)
         ·refine RS.no rfl rfl ?_
          refine RS.no rfl rfl ?_
          refine RS.p (Pu.pickF rfl rfl) rfl rfl ?_
          exact hJ23 _ _ ⟨dAndF hc22, rfl, rfl, rfl, rfl, rfl, rfl, rfl, trivial⟩ (fun w s => s)
       ·intro hJ21
        refine RS.splitP 52 rfl (fun hc20 => ?_) (fun hc20 => ?_)
        ·refine RS.p (Pu.move rfl) rfl rfl ?_
         refine RS.p (Pu.bin rfl rfl rfl) rfl rfl ?_
         refine RS.p (Pu.pickT rfl rfl) rfl rfl ?_
         exact hJ21 _ _ ⟨dAndT hc20, rfl, rfl, rfl, rfl, rfl, rfl, rfl, trivial⟩ (fun w s => s)
        ·refine RS.no rfl rfl ?_
         refine RS.no rfl rfl ?_
         refine RS.p (Pu.pickF rfl rfl) rfl rfl ?_
         exact hJ21 _ _ ⟨dAndF hc20, rfl, rfl, rfl, rfl, rfl, rfl, rfl, trivial⟩ (fun w s => s)
      ·intro hJ19
       refine RS.splitP 47 rfl (fun hc18 => ?_) (fun hc18 => ?_)
       ·refine RS.p (Pu.move rfl) rfl rfl ?_
        refine RS.p (Pu.move rfl) rfl rfl ?_
        refine RS.p (Pu.bin rfl rfl rfl) rfl rfl ?_
        refine RS.p (Pu.pickT rfl rfl) rfl rfl ?_
        exact hJ19 _ _ ⟨dAndT hc18, rfl, rfl, rfl, rfl, rfl, rfl, rfl, trivial⟩ (fun w s => s)
       ·refine RS.no rfl rfl ?_
        refine RS.no rfl rfl ?_
        refine RS.no rfl rfl ?_
        refine RS.p (Pu.pickF rfl rfl) rfl rfl ?_
        exact hJ19 _ _ ⟨dAndF hc18, rfl, rfl, rfl, rfl, rfl, rfl, rfl, trivial⟩ (fun w s => s)
     ·intro hJ17
      refine RS.splitP 43 rfl (fun hc16 => ?_) (fun hc16 => ?_)
      ·refine RS.p (Pu.move rfl) rfl rfl ?_
       refine RS.p (Pu.bin rfl rfl rfl) rfl rfl ?_
       refine RS.p (Pu.pickT rfl rfl) rfl rfl ?_
       exact hJ17 _ _ ⟨dAndT hc16, rfl, rfl, rfl, rfl, rfl, rfl, rfl, trivial⟩ (fun w s => s)
      ·refine RS.no rfl rfl ?_
       refine RS.no rfl rfl ?_
       refine RS.p (Pu.pickF rfl rfl) rfl rfl ?_
       exact hJ17 _ _ ⟨dAndF hc16, rfl, rfl, rfl, rfl, rfl, rfl, rfl, trivial⟩ (fun w s => s)
    ·intro hJ15
     refine RS.splitP 39 rfl (fun hc14 => ?_) (fun hc14 => ?_)
     ·refine RS.p (Pu.move rfl) rfl rfl ?_
      refine RS.p (Pu.bin rfl rfl rfl) rfl rfl ?_
      refine RS.p (Pu.pickT rfl rfl) rfl rfl ?_
      exact hJ15 _ _ ⟨dAndT hc14, rfl, rfl, rfl, rfl, rfl, rfl, rfl, trivial⟩ (fun w s => s)
     ·refine RS.no rfl rfl ?_
      refine RS.no rfl rfl ?_
      refine RS.p (Pu.pickF rfl rfl) rfl rfl ?_
      exact hJ15 _ _ ⟨dAndF hc14, rfl, rfl, rfl, rfl, rfl, rfl, rfl, trivial⟩ (fun w s => s)
   ·have H := ifF hc7 H
    obtain rfl := hd1 _ H
    refine T.exitTo (by with_reducible (repeat (first | exact ExTo.here | exact ExTo.hereN | exact ExTo.deep (by repeat (first | exact NmTo.seq | apply NmTo.blk)) | apply ExTo.seq | refine ExTo.past (by decide) ?_))) (hJ1 _ _ () () HX1 trivial trivial (fun w s => s))
  ·intro hJ6
   refine RS.splitP 15 rfl (fun hc5 => ?_) (fun hc5 => ?_)
   ·refine RS.p (Pu.move rfl) rfl rfl ?_
    refine RS.p (Pu.bin rfl rfl rfl) rfl rfl ?_
    refine RS.p (Pu.pickT rfl rfl) rfl rfl ?_
    exact hJ6 _ _ ⟨dAndT hc5, rfl, rfl, trivial⟩ (fun w s => s)
   ·refine RS.no rfl rfl ?_
    refine RS.no rfl rfl ?_
    refine RS.p (Pu.pickF rfl rfl) rfl rfl ?_
    exact hJ6 _ _ ⟨dAndF hc5, rfl, rfl, trivial⟩ (fun w s => s)
end Go.Proofs.Ytlpmiledfcblfaa
