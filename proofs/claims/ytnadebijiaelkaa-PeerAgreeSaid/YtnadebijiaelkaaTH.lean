/-
  Walks of what is called: commands.
-/
import Derived.Test.YtnadebijiaelkaaRows
import Derived.Test.YtnadebijiaelkaaW5
set_option linter.unusedVariables false
set_option linter.unusedSimpArgs false
set_option maxRecDepth 20000
set_option maxHeartbeats 4000000
namespace Go.Proofs.Ytnadebijiaelkaa
open Go.Vg
open Enc (R)
theorem ent19 : Ent Try.prog 19 := ⟨_, _, Try.func19, by kernel_rfl, rfl⟩
theorem ent20 : Ent Try.prog 20 := ⟨_, _, Try.func20, by kernel_rfl, rfl⟩
theorem ent28 : Ent Try.prog 28 := ⟨_, _, Try.func28, by kernel_rfl, rfl⟩
theorem ent45 : Ent Try.prog 45 := ⟨_, _, Try.func45, by kernel_rfl, rfl⟩
theorem ent46 : Ent Try.prog 46 := ⟨_, _, Try.func46, by kernel_rfl, rfl⟩
theorem ent60 : Ent Try.prog 60 := ⟨_, _, Try.func60, by kernel_rfl, rfl⟩
theorem ent70 : Ent Try.prog 70 := ⟨_, _, Try.func70, by kernel_rfl, rfl⟩
theorem ent72 : Ent Try.prog 72 := ⟨_, _, Try.func72, by kernel_rfl, rfl⟩
theorem ent73 : Ent Try.prog 73 := ⟨_, _, Try.func73, by kernel_rfl, rfl⟩
theorem ent76 : Ent Try.prog 76 := ⟨_, _, Try.func76, by kernel_rfl, rfl⟩
theorem ent77 : Ent Try.prog 77 := ⟨_, _, Try.func77, by kernel_rfl, rfl⟩
theorem ent78 : Ent Try.prog 78 := ⟨_, _, Try.func78, by kernel_rfl, rfl⟩
theorem ent85 : Ent Try.prog 85 := ⟨_, _, Try.func85, by kernel_rfl, rfl⟩
theorem ent87 : Ent Try.prog 87 := ⟨_, _, Try.func87, by kernel_rfl, rfl⟩
theorem ent88 : Ent Try.prog 88 := ⟨_, _, Try.func88, by kernel_rfl, rfl⟩
theorem ent89 : Ent Try.prog 89 := ⟨_, _, Try.func89, by kernel_rfl, rfl⟩
theorem eqt61 : eqTy Try.prog 61 = some [0, 1] := by kernel_rfl
theorem fd35_0 : fdOff Try.prog 35 0 = some 0 := by kernel_rfl
theorem fd35_1 : fdOff Try.prog 35 1 = some 1 := by kernel_rfl
theorem fd35_2 : fdOff Try.prog 35 2 = some 2 := by kernel_rfl
theorem fd61_0 : fdOff Try.prog 61 0 = some 0 := by kernel_rfl
theorem fd61_1 : fdOff Try.prog 61 1 = some 1 := by kernel_rfl
theorem fd63_0 : fdOff Try.prog 63 0 = some 0 := by kernel_rfl
theorem fd63_1 : fdOff Try.prog 63 1 = some 1 := by kernel_rfl
theorem fd63_2 : fdOff Try.prog 63 2 = some 2 := by kernel_rfl
theorem fd63_3 : fdOff Try.prog 63 3 = some 3 := by kernel_rfl
theorem fd63_4 : fdOff Try.prog 63 4 = some 4 := by kernel_rfl
theorem fd63_5 : fdOff Try.prog 63 5 = some 5 := by kernel_rfl
theorem fd63_6 : fdOff Try.prog 63 6 = some 6 := by kernel_rfl
theorem fd63_7 : fdOff Try.prog 63 7 = some 7 := by kernel_rfl
theorem fd63_8 : fdOff Try.prog 63 8 = some 8 := by kernel_rfl
theorem sl22 : slTy Try.prog 22 = some (35, 3, 40) := by kernel_rfl
theorem sl33 : slTy Try.prog 33 = some (63, 10, 96) := by kernel_rfl
theorem st63 : stTy Try.prog 63 = some ([.int .i64 0, .int .i64 0, .int .i64 0, .int .i64 0, .slice none 0 0, .int .i64 0, .int .i64 0, .int .i64 0, .int .i64 0, .int .i64 0], [(0, 1), (1, 1), (2, 1), (3, 1), (4, 1), (5, 1), (6, 1), (7, 1), (8, 2)]) := by kernel_rfl
theorem ty2 : tySz Try.prog 2 = some (1, false) := by kernel_rfl
theorem ty23 : tySz Try.prog 23 = some (1, false) := by kernel_rfl
theorem ty3 : tySz Try.prog 3 = some (1, false) := by kernel_rfl
theorem ty33 : tySz Try.prog 33 = some (1, false) := by kernel_rfl
theorem ty35 : tySz Try.prog 35 = some (3, true) := by kernel_rfl
theorem ty61 : tySz Try.prog 61 = some (2, true) := by kernel_rfl
theorem ty63 : tySz Try.prog 63 = some (10, true) := by kernel_rfl
theorem zr35 : zeroOf Try.prog 35 = some (.agg #[.int .i64 0, .int .i64 0, .slice none 0 0]) := by kernel_rfl
theorem zr63 : zeroOf Try.prog 63 = some (.agg #[.int .i64 0, .int .i64 0, .int .i64 0, .int .i64 0, .slice none 0 0, .int .i64 0, .int .i64 0, .int .i64 0, .int .i64 0, .int .i64 0]) := by kernel_rfl
theorem throngref0_EqNumbers_walk (a0_a : List Int) (a1_b : List Int) (w : World) {v0 v1 : Value} (h0 : R (hpOf w) a0_a [v0]) (h1 : R (hpOf w) a1_b [v1]) {r : Bool} (H : throngref0_EqNumbers a0_a a1_b = some r) : Calls Try.prog 70 #[v0, v1] w fun e w' => e = .returned (.bool r) ∧ Ext w w' := by
 have hm0 := R_max h0
 obtain ⟨p0, c0, rfl⟩ := R_form h0
 have hm1 := R_max h1
 obtain ⟨p1, c1, rfl⟩ := R_form h1
 unfold throngref0_EqNumbers at H
 refine T.enter (args := [_, _]) (S := Sat w []) Try.func70 rfl rfl (Sat.start w) ?_
 refine T.seq fun K1 hK1 => ?_
 refine T.region ?_
 refine RS.p (Pu.assign rfl) rfl rfl ?_
 refine RS.nil (hK1 _ _ ?_)
 refine T.seq fun K2 hK2 => ?_
 refine T.seq fun K3 hK3 => ?_
 refine T.region ?_
 refine RS.p (Pu.move rfl) rfl rfl ?_
 refine RS.p (Pu.lenSl sl23 rfl) rfl rfl ?_
 refine RS.p (Pu.move rfl) rfl rfl ?_
 refine RS.p (Pu.lenSl sl23 rfl) rfl rfl ?_
 refine RS.p (Pu.bin rfl rfl rfl) rfl rfl ?_
 refine RS.nil (hK3 _ _ ?_)
 refine T.condP rfl (fun hc1 => ?_) (fun hc1 => ?_)
 ·have H := ifT hc1 H
  refine T.conseq (fr' := []) ?_ trivial (fun _ s => s)
  refine T.seq fun K4 hK4 => ?_
  refine T.region ?_
  refine RS.p (Pu.assign rfl) rfl rfl ?_
  refine RS.nil (hK4 _ _ ?_)
  obtain rfl := Option.some.inj H
  refine T.rt (Cont.ret1 rfl rfl fun w' s => ?_)
  exact ⟨rfl, s.ext⟩
 ·have H := ifF hc1 H
  refine T.skip (hK2 _ _ (T.conseq (fr' := [(0, _), (1, _)]) ?_ ⟨rfl, rfl, trivial⟩ (fun _ s => s)))
  refine T.seq fun K5 hK5 => ?_
  refine T.seq fun K6 hK6 => ?_
  refine T.region ?_
  refine RS.p (Pu.assign rfl) rfl rfl ?_
  refine RS.nil (hK6 _ _ ?_)
  refine T.joinE (σ := Unit) (γ := Unit) H Ex.go [] trivial (fun _ _ => []) (fun _ _ => Sat w []) ?_ ?_
  ·rintro ⟨⟩ ⟨⟩ H
   try dsimp only [Ex.then] at H
   refine Cont.conseq (fr' := []) ?_ trivial (fun _ s => s)
   refine id (hK5 _ _ ?_)
   refine T.seq fun K7 hK7 => ?_
   refine T.region ?_
   refine RS.p (Pu.assign rfl) rfl rfl ?_
   refine RS.nil (hK7 _ _ ?_)
   obtain rfl := Option.some.inj H
   refine T.rt (Cont.ret1 rfl rfl fun w' s => ?_)
   exact ⟨rfl, s.ext⟩
  ·intro z2 hz2 HX2 hJ2
   refine T.block ?_
   refine T.loopA (γ := Unit) hz2 [(0, _), (1, _)] (fun v3 _ => [(5, .int .i64 v3)]) (fun v3 _ => Sat w []) () ⟨rfl, rfl, trivial⟩ ⟨rfl, trivial⟩ (fun w s => s) ?_
   rintro v3 ⟨⟩ y4 H hd2 KL2 hL2
   try dsimp only [Ex.then] at H
   refine T.conseq (fr' := [(5, _), (0, _), (1, _)]) ?_ ⟨rfl, rfl, rfl, trivial⟩ (fun _ s => s)
   refine T.seq fun K8 hK8 => ?_
   refine T.seq fun K9 hK9 => ?_
   refine T.region ?_
   refine RS.p (Pu.move rfl) rfl rfl ?_
   refine RS.p (Pu.move rfl) rfl rfl ?_
   refine RS.p (Pu.lenSl sl23 rfl) rfl rfl ?_
   refine RS.p (Pu.bin rfl rfl rfl) rfl rfl ?_
   refine RS.nil (hK9 _ _ ?_)
   refine T.condP rfl (fun hc5 => ?_) (fun hc5 => ?_)
   ·have H := ifT hc5 H
    refine T.skip (hK8 _ _ (T.conseq (fr' := [(0, _), (1, _), (5, _)]) ?_ ⟨rfl, rfl, rfl, trivial⟩ (fun _ s => s)))
    refine T.seq fun K10 hK10 => ?_
    refine T.block ?_
    refine T.seq fun K11 hK11 => ?_
    refine T.drawn (fun _ => True) [(0, .pu), (1, .pu), (2, .pu), (3, .rd), (4, .pu), (5, .pu), (6, .pu), (7, .rd), (8, .pu)] mixed (ClE.sat _ _) (by kernel_rfl) ?_
    refine RD.p (fun _ _ => trivial) rfl (Pu.move rfl) rfl rfl ?_
    refine RD.p (fun _ _ => trivial) rfl (Pu.move rfl) rfl rfl ?_
    obtain ⟨g6, H⟩ := gdE H
    obtain ⟨bl7, ol8, rfl⟩ := R_ptr h0 (ne_of_pos (pos_of g6))
    refine RD.p (fun _ _ => trivial) rfl (Pu.indexSl sl23 rfl rfl g6) rfl rfl ?_
    refine RD.q (fun _ _ => trivial) rfl (Qt.ld0 (α := Int) (Rd.base h0) ty3 rfl rfl g6 (by rintro _ _ rfl; rfl)) rfl rfl ?_
    refine RD.p (fun _ _ => trivial) rfl (Pu.move rfl) rfl rfl ?_
    refine RD.p (fun _ _ => trivial) rfl (Pu.move rfl) rfl rfl ?_
    obtain ⟨g9, H⟩ := gdE H
    obtain ⟨bl10, ol11, rfl⟩ := R_ptr h1 (ne_of_pos (pos_of g9))
    refine RD.p (fun _ _ => trivial) rfl (Pu.indexSl sl23 rfl rfl g9) rfl rfl ?_
    refine RD.q (fun _ _ => trivial) rfl (Qt.ld0 (α := Int) (Rd.base h1) ty3 rfl rfl g9 (by rintro _ _ rfl; rfl)) rfl rfl ?_
    refine RD.p (fun _ _ => trivial) rfl (Pu.bin rfl rfl rfl) rfl rfl ?_
    refine RD.nil (hK11 _ _ ?_)
    refine T.condP rfl (fun hc12 => ?_) (fun hc12 => ?_)
    ·have H := ifT hc12 H
     refine T.conseq (fr' := []) ?_ trivial (fun _ s => s)
     refine T.seq fun K12 hK12 => ?_
     refine T.region ?_
     refine RS.p (Pu.assign rfl) rfl rfl ?_
     refine RS.nil (hK12 _ _ ?_)
     obtain rfl := hd2 _ H
     have H := HX2
     obtain rfl := Option.some.inj H
     refine T.rt (Cont.ret1 rfl rfl fun w' s => ?_)
     exact ⟨rfl, s.ext⟩
    ·have H := ifF hc12 H
     refine T.skip (hK10 _ _ (T.conseq (fr' := [(0, _), (1, _), (5, _)]) ?_ ⟨rfl, rfl, rfl, trivial⟩ (fun _ s => s)))
     refine T.region ?_
     refine RS.p (Pu.move rfl) rfl rfl ?_
     obtain ⟨g13, H⟩ := gdE H
     refine RS.p (Pu.addS rfl rfl g13) rfl rfl ?_
     refine RS.p (Pu.assign rfl) rfl rfl ?_
     refine RS.nil (hL2 _ _ (v3 + 1) () H ⟨rfl, rfl, trivial⟩ ⟨rfl, trivial⟩ (fun w s => s))
   ·have H := ifF hc5 H
    obtain rfl := hd2 _ H
    refine T.xt (hJ2 _ _ () () HX2 trivial trivial (fun w s => s))
theorem throngref0_CopyNumbers_walk (a0_l : List Int) (w : World) {v0 : Value} (h0 : R (hpOf w) a0_l [v0]) {r : List Int} (H : throngref0_CopyNumbers a0_l = some r) : Calls Try.prog 28 #[v0] w fun e w' => ∃ q1 : (Option Nat × Nat), e = .returned (rowV q1 r.length) ∧ Sat w [row nilH 3 (rowV q1 r.length) r] w' := by
 have hm0 := R_max h0
 obtain ⟨p0, c0, rfl⟩ := R_form h0
 unfold throngref0_CopyNumbers at H
 refine T.enter (args := [_]) (S := Sat w []) Try.func28 rfl rfl (Sat.start w) ?_
 refine T.seq fun K1 hK1 => ?_
 refine T.region ?_
 refine RS.p (Pu.assign rfl) rfl rfl ?_
 refine RS.nil (hK1 _ _ ?_)
 refine T.seq fun K2 hK2 => ?_
 refine T.region ?_
 refine RS.p (Pu.assign rfl) rfl rfl ?_
 refine RS.nil (hK2 _ _ ?_)
 refine T.seq fun K3 hK3 => ?_
 refine T.seq fun K4 hK4 => ?_
 refine T.region ?_
 refine RS.p (Pu.assign rfl) rfl rfl ?_
 refine RS.nil (hK4 _ _ ?_)
 refine T.joinE (σ := List Int) (γ := (Option Nat × Nat)) H (fun s => s) [] trivial (fun v2 q3 => [(3, rowV q3 v2.length)]) (fun v2 q3 => Sat w [row nilH 3 (rowV q3 v2.length) v2]) ?_ ?_
 ·rintro v2 q3 H
  try dsimp only [Ex.then] at H
  refine Cont.conseq (fr' := [(3, _)]) ?_ ⟨rfl, trivial⟩ (fun _ s => s)
  refine id (hK3 _ _ ?_)
  refine T.seq fun K5 hK5 => ?_
  refine T.region ?_
  refine RS.p (Pu.move rfl) rfl rfl ?_
  refine RS.p (Pu.assign rfl) rfl rfl ?_
  refine RS.nil (hK5 _ _ ?_)
  obtain rfl := Option.some.inj H
  refine T.rt (Cont.ret1 rfl rfl fun w' s => ?_)
  exact ⟨q3, rfl, s.pick [0] (by decide) rfl⟩
 ·intro z1 hz1 HX1 hJ1
  refine T.block ?_
  refine T.loopA (γ := (Option Nat × Nat)) hz1 [(0, _)] (fun (l4, v6) q5 => [(3, rowV q5 l4.length), (4, .int .i64 v6)]) (fun (l4, v6) q5 => Sat w [row nilH 3 (rowV q5 l4.length) l4]) (none, 0) ⟨rfl, trivial⟩ ⟨rfl, rfl, trivial⟩ (fun w s => (s.nilRow (α := Int) 3).pick [0] (by decide) rfl) ?_
  rintro ⟨l4, v6⟩ q5 y7 H hd1 KL1 hL1
  try dsimp only [Ex.then] at H
  refine T.conseq (fr' := [(3, _), (4, _), (0, _)]) ?_ ⟨rfl, rfl, rfl, trivial⟩ (fun _ s => s)
  refine T.seq fun K6 hK6 => ?_
  refine T.seq fun K7 hK7 => ?_
  refine T.region ?_
  refine RS.p (Pu.move rfl) rfl rfl ?_
  refine RS.p (Pu.move rfl) rfl rfl ?_
  refine RS.p (Pu.lenSl sl23 rfl) rfl rfl ?_
  refine RS.p (Pu.bin rfl rfl rfl) rfl rfl ?_
  refine RS.nil (hK7 _ _ ?_)
  refine T.condP rfl (fun hc8 => ?_) (fun hc8 => ?_)
  ·have H := ifT hc8 H
   refine T.skip (hK6 _ _ (T.conseq (fr' := [(0, _), (3, _), (4, _)]) ?_ ⟨rfl, rfl, rfl, trivial⟩ (fun _ s => s)))
   refine T.seq fun K8 hK8 => ?_
   refine T.block ?_
   refine T.region ?_
   refine RS.p (Pu.move rfl) rfl rfl ?_
   refine RS.p (Pu.move rfl) rfl rfl ?_
   refine RS.p (Pu.move rfl) rfl rfl ?_
   obtain ⟨g9, H⟩ := gdE H
   obtain ⟨bl10, ol11, rfl⟩ := R_ptr h0 (ne_of_pos (pos_of g9))
   refine RS.p (Pu.indexSl sl23 rfl rfl g9) rfl rfl ?_
   refine RS.q (Qt.ld0 (α := Int) (Rd.base h0) ty3 rfl rfl g9 (by rintro _ _ rfl; rfl)) rfl rfl ?_
   refine RS.solid (Sd.litS (cs := [_]) sl23 zr3 rfl rfl rfl rfl rfl) rfl rfl fun b12 => ?_
   obtain ⟨g14, H⟩ := gdE H
   refine RS.solid (Sd.app1c (α := Int) 0 1 (gi a0_l v6) rfl rfl (nilH_lt _) sl23 zr3 rfl rfl rfl rfl g14 (by decide)) rfl rfl fun q13 => ?_
   refine RS.p (Pu.assign rfl) rfl rfl ?_
   refine RS.nil (hK8 _ _ (T.conseq (fr' := [(0, _), (3, _), (4, _)]) ?_ ⟨rfl, rfl, rfl, trivial⟩ (fun _ s => s)))
   refine T.region ?_
   refine RS.p (Pu.move rfl) rfl rfl ?_
   obtain ⟨g15, H⟩ := gdE H
   refine RS.p (Pu.addS rfl rfl g15) rfl rfl ?_
   refine RS.p (Pu.assign rfl) rfl rfl ?_
   refine RS.nil (hL1 _ _ ((l4 ++ [(gi a0_l v6)]), (v6 + 1)) q13 H ⟨rfl, trivial⟩ ⟨rfl, rfl, trivial⟩ (fun w s => s.pick [0] (by decide) rfl))
  ·have H := ifF hc8 H
   obtain rfl := hd1 _ H
   refine T.xt (hJ1 _ _ l4 q5 HX1 trivial ⟨rfl, trivial⟩ (fun w s => s))
theorem throngref0_EqCommand_walk (a0_a : Cmd) (a1_b : Cmd) (w : World) {v0 v1 : Value} (h0 : R (hpOf w) a0_a.units [v0]) (h1 : R (hpOf w) a1_b.units [v1]) {r : Bool} (H : throngref0_EqCommand a0_a a1_b = some r) : Calls Try.prog 45 #[.agg #[.int .i64 a0_a.player, .int .i64 a0_a.seq, .int .i64 a0_a.kind, .int .i64 a0_a.n, v0, .int .i64 a0_a.tile, .int .i64 a0_a.w, .int .i64 a0_a.h, .int .i64 a0_a.pos.x, .int .i64 a0_a.pos.y], .agg #[.int .i64 a1_b.player, .int .i64 a1_b.seq, .int .i64 a1_b.kind, .int .i64 a1_b.n, v1, .int .i64 a1_b.tile, .int .i64 a1_b.w, .int .i64 a1_b.h, .int .i64 a1_b.pos.x, .int .i64 a1_b.pos.y]] w fun e w' => e = .returned (.bool r) ∧ Ext w w' := by
 have hm0 := R_max h0
 obtain ⟨p0, c0, rfl⟩ := R_form h0
 have hm1 := R_max h1
 obtain ⟨p1, c1, rfl⟩ := R_form h1
 unfold throngref0_EqCommand at H
 refine T.enter (args := [_, _]) (S := Sat w []) Try.func45 rfl rfl (Sat.start w) ?_
 refine T.seq fun K1 hK1 => ?_
 refine T.region ?_
 refine RS.solid (Sd.box (cs := [_, _, _, _, _, _, _, _, _, _]) rfl rfl) rfl rfl fun b1 => ?_
 refine RS.solid (Sd.box (cs := [_, _, _, _, _, _, _, _, _, _]) rfl rfl) rfl rfl fun b2 => ?_
 refine RS.p (Pu.assign rfl) rfl rfl ?_
 refine RS.nil (hK1 _ _ (T.conseq (fr' := [(2, _), (3, _)]) ?_ ⟨rfl, rfl, trivial⟩ (fun _ s => s)))
 refine T.seq fun K2 hK2 => ?_
 refine T.region ?_
 refine RS.p (Pu.fieldAddr fd63_0 rfl) rfl rfl ?_
 refine RS.q (Qt.ldB 0 ty3 rfl rfl rfl) rfl rfl ?_
 refine RS.p (Pu.fieldAddr fd63_0 rfl) rfl rfl ?_
 refine RS.q (Qt.ldB 1 ty3 rfl rfl rfl) rfl rfl ?_
 refine RS.p (Pu.bin rfl rfl rfl) rfl rfl ?_
 refine RS.p (Pu.move rfl) rfl rfl ?_
 refine RS.joinV 6 16 (.bool (decide ((a0_a.player = a1_b.player) ∧ (a0_a.seq = a1_b.seq)))) [(2, _), (3, _)] ⟨rfl, rfl, trivial⟩ ?_ ?_
 ·refine RS.p (Pu.move rfl) rfl rfl ?_
  refine RS.joinV 6 23 (.bool (decide (((a0_a.player = a1_b.player) ∧ (a0_a.seq = a1_b.seq)) ∧ (a0_a.kind = a1_b.kind)))) [(2, _), (3, _)] ⟨rfl, rfl, trivial⟩ ?_ ?_
  ·refine RS.p (Pu.move rfl) rfl rfl ?_
   refine RS.joinV 6 30 (.bool (decide ((((a0_a.player = a1_b.player) ∧ (a0_a.seq = a1_b.seq)) ∧ (a0_a.kind = a1_b.kind)) ∧ (a0_a.n = a1_b.n)))) [(2, _), (3, _)] ⟨rfl, rfl, trivial⟩ ?_ ?_
   ·refine RS.p (Pu.move rfl) rfl rfl ?_
    refine RS.joinB H 6 37 (fun b11 => .bool b11) [(2, _), (3, _)] ⟨rfl, rfl, trivial⟩ ?_ ?_
    ·intro b11 H
     refine RS.p (Pu.move rfl) rfl rfl ?_
     refine RS.joinV 6 44 (.bool (decide ((b11 = true) ∧ (a0_a.tile = a1_b.tile)))) [(2, _), (3, _)] ⟨rfl, rfl, trivial⟩ ?_ ?_
     ·refine RS.p (Pu.move rfl) rfl rfl ?_
      refine RS.joinV 6 51 (.bool (decide (((b11 = true) ∧ (a0_a.tile = a1_b.tile)) ∧ (a0_a.w = a1_b.w)))) [(2, _), (3, _)] ⟨rfl, rfl, trivial⟩ ?_ ?_
      ·refine RS.p (Pu.move rfl) rfl rfl ?_
       refine RS.joinV 6 58 (.bool (decide ((((b11 = true) ∧ (a0_a.tile = a1_b.tile)) ∧ (a0_a.w = a1_b.w)) ∧ (a0_a.h = a1_b.h)))) [(2, _), (3, _)] ⟨rfl, rfl, trivial⟩ ?_ ?_
       ·refine RS.p (Pu.move rfl) rfl rfl ?_
        refine RS.joinV 6 65 (.bool (decide (((((b11 = true) ∧ (a0_a.tile = a1_b.tile)) ∧ (a0_a.w = a1_b.w)) ∧ (a0_a.h = a1_b.h)) ∧ (a0_a.pos = a1_b.pos)))) [] trivial ?_ ?_
        ·refine RS.p (Pu.assign rfl) rfl rfl ?_
         refine RS.nil (hK2 _ _ ?_)
         obtain rfl := Option.some.inj H
         refine T.rt (Cont.ret1 rfl rfl fun w' s => ?_)
         exact ⟨rfl, s.ext⟩
        ·intro hJ19
         refine RS.splitP 59 rfl (fun hc18 => ?_) (fun hc18 => ?_)
         ·refine RS.p (Pu.fieldAddr fd63_8 rfl) rfl rfl ?_
          refine RS.q (Qt.ldBA (us := [_, _]) 0 ty61 rfl rfl rfl rfl) rfl rfl ?_
          refine RS.p (Pu.fieldAddr fd63_8 rfl) rfl rfl ?_
          refine RS.q (Qt.ldBA (us := [_, _]) 1 ty61 rfl rfl rfl rfl) rfl rfl ?_
          refine RS.p (Pu.eqSt eqt61 rfl rfl rfl (eq_Vec a0_a.pos a1_b.pos)) rfl rfl ?_
          refine RS.p (Pu.pickT rfl rfl) rfl rfl ?_
          exact hJ19 _ _ ⟨dAndT hc18, trivial⟩ (fun w s => s)
         ·refine RS.no rfl rfl ?_
          refine RS.no rfl rfl ?_
          refine RS.no rfl rfl ?_
          refine RS.no rfl rfl ?_
          refine RS.no rfl rfl ?_
          refine RS.p (Pu.pickF rfl rfl) rfl rfl ?_
          exact hJ19 _ _ ⟨dAndF hc18, trivial⟩ (fun w s => s)
       ·intro hJ17
        refine RS.splitP 52 rfl (fun hc16 => ?_) (fun hc16 => ?_)
        ·refine RS.p (Pu.fieldAddr fd63_7 rfl) rfl rfl ?_
         refine RS.q (Qt.ldB 0 ty3 rfl rfl rfl) rfl rfl ?_
         refine RS.p (Pu.fieldAddr fd63_7 rfl) rfl rfl ?_
         refine RS.q (Qt.ldB 1 ty3 rfl rfl rfl) rfl rfl ?_
         refine RS.p (Pu.bin rfl rfl rfl) rfl rfl ?_
         refine RS.p (Pu.pickT rfl rfl) rfl rfl ?_
         exact hJ17 _ _ ⟨dAndT hc16, rfl, rfl, trivial⟩ (fun w s => s)
        ·refine RS.no rfl rfl ?_
         refine RS.no rfl rfl ?_
         refine RS.no rfl rfl ?_
         refine RS.no rfl rfl ?_
         refine RS.no rfl rfl ?_
         refine RS.p (Pu.pickF rfl rfl) rfl rfl ?_
         exact hJ17 _ _ ⟨dAndF hc16, rfl, rfl, trivial⟩ (fun w s => s)
      ·intro hJ15
       refine RS.splitP 45 rfl (fun hc14 => ?_) (fun hc14 => ?_)
       ·refine RS.p (Pu.fieldAddr fd63_6 rfl) rfl rfl ?_
        refine RS.q (Qt.ldB 0 ty3 rfl rfl rfl) rfl rfl ?_
        refine RS.p (Pu.fieldAddr fd63_6 rfl) rfl rfl ?_
        refine RS.q (Qt.ldB 1 ty3 rfl rfl rfl) rfl rfl ?_
        refine RS.p (Pu.bin rfl rfl rfl) rfl rfl ?_
        refine RS.p (Pu.pickT rfl rfl) rfl rfl ?_
        exact hJ15 _ _ ⟨dAndT hc14, rfl, rfl, trivial⟩ (fun w s => s)
       ·refine RS.no rfl rfl ?_
        refine RS.no rfl rfl ?_
        refine RS.no rfl rfl ?_
        refine RS.no rfl rfl ?_
        refine RS.no rfl rfl ?_
        refine RS.p (Pu.pickF rfl rfl) rfl rfl ?_
        exact hJ15 _ _ ⟨dAndF hc14, rfl, rfl, trivial⟩ (fun w s => s)
     ·intro hJ13
      refine RS.split 38 rfl (fun hc12 => ?_) (fun hc12 => ?_)
      ·refine RS.p (Pu.fieldAddr fd63_5 rfl) rfl rfl ?_
       refine RS.q (Qt.ldB 0 ty3 rfl rfl rfl) rfl rfl ?_
       refine RS.p (Pu.fieldAddr fd63_5 rfl) rfl rfl ?_
       refine RS.q (Qt.ldB 1 ty3 rfl rfl rfl) rfl rfl ?_
       refine RS.p (Pu.bin rfl rfl rfl) rfl rfl ?_
       refine RS.p (Pu.pickT rfl rfl) rfl rfl ?_
       exact hJ13 _ _ ⟨dAndT hc12, rfl, rfl, trivial⟩ (fun w s => s)
      ·refine RS.no rfl rfl ?_
       refine RS.no rfl rfl ?_
       refine RS.no rfl rfl ?_
       refine RS.no rfl rfl ?_
       refine RS.no rfl rfl ?_
       refine RS.p (Pu.pickF rfl rfl) rfl rfl ?_
       exact hJ13 _ _ ⟨dAndF (bne_of hc12), rfl, rfl, trivial⟩ (fun w s => s)
    ·intro z20 H hJ10
     refine RS.splitP 31 rfl (fun hc9 => ?_) (fun hc9 => ?_)
     ·have H := ifT hc9 H
      refine RS.p (Pu.fieldAddr fd63_4 rfl) rfl rfl ?_
      refine RS.q (Qt.ldB 0 ty23 rfl rfl rfl) rfl rfl ?_
      refine RS.p (Pu.fieldAddr fd63_4 rfl) rfl rfl ?_
      refine RS.q (Qt.ldB 1 ty23 rfl rfl rfl) rfl rfl ?_
      obtain ⟨x21, hx21, H⟩ := bindE H
      refine RS.q (Qt.call (vs := [.slice p0 a0_a.units.length c0, .slice p1 a1_b.units.length c1]) ent70 rfl fun w s => throngref0_EqNumbers_walk a0_a.units a1_b.units w ((Rd.base h0) w s) ((Rd.base h1) w s) hx21) rfl rfl ?_
      refine RS.p (Pu.pickT rfl rfl) rfl rfl ?_
      obtain rfl := Option.some.inj H
      exact hJ10 _ _ ⟨rfl, rfl, rfl, trivial⟩ (fun w s => s)
     ·have H := ifF hc9 H
      refine RS.no rfl rfl ?_
      refine RS.no rfl rfl ?_
      refine RS.no rfl rfl ?_
      refine RS.no rfl rfl ?_
      refine RS.no rfl rfl ?_
      refine RS.p (Pu.pickF rfl rfl) rfl rfl ?_
      obtain rfl := Option.some.inj H
      exact hJ10 _ _ ⟨rfl, rfl, rfl, trivial⟩ (fun w s => s)
   ·intro hJ8
    refine RS.splitP 24 rfl (fun hc7 => ?_) (fun hc7 => ?_)
    ·refine RS.p (Pu.fieldAddr fd63_3 rfl) rfl rfl ?_
     refine RS.q (Qt.ldB 0 ty3 rfl rfl rfl) rfl rfl ?_
     refine RS.p (Pu.fieldAddr fd63_3 rfl) rfl rfl ?_
     refine RS.q (Qt.ldB 1 ty3 rfl rfl rfl) rfl rfl ?_
     refine RS.p (Pu.bin rfl rfl rfl) rfl rfl ?_
     refine RS.p (Pu.pickT rfl rfl) rfl rfl ?_
     exact hJ8 _ _ ⟨dAndT hc7, rfl, rfl, trivial⟩ (fun w s => s)
    ·refine RS.no rfl rfl ?_
     refine RS.no rfl rfl ?_
     refine RS.no rfl rfl ?_
     refine RS.no rfl rfl ?_
     refine RS.no rfl rfl ?_
     refine RS.p (Pu.pickF rfl rfl) rfl rfl ?_
     exact hJ8 _ _ ⟨dAndF hc7, rfl, rfl, trivial⟩ (fun w s => s)
  ·intro hJ6
   refine RS.splitP 17 rfl (fun hc5 => ?_) (fun hc5 => ?_)
   ·refine RS.p (Pu.fieldAddr fd63_2 rfl) rfl rfl ?_
    refine RS.q (Qt.ldB 0 ty3 rfl rfl rfl) rfl rfl ?_
    refine RS.p (Pu.fieldAddr fd63_2 rfl) rfl rfl ?_
    refine RS.q (Qt.ldB 1 ty3 rfl rfl rfl) rfl rfl ?_
    refine RS.p (Pu.bin rfl rfl rfl) rfl rfl ?_
    refine RS.p (Pu.pickT rfl rfl) rfl rfl ?_
    exact hJ6 _ _ ⟨dAndT hc5, rfl, rfl, trivial⟩ (fun w s => s)
   ·refine RS.no rfl rfl ?_
    refine RS.no rfl rfl ?_
    refine RS.no rfl rfl ?_
    refine RS.no rfl rfl ?_
    refine RS.no rfl rfl ?_
    refine RS.p (Pu.pickF rfl rfl) rfl rfl ?_
    exact hJ6 _ _ ⟨dAndF hc5, rfl, rfl, trivial⟩ (fun w s => s)
 ·intro hJ4
  refine RS.splitP 10 rfl (fun hc3 => ?_) (fun hc3 => ?_)
  ·refine RS.p (Pu.fieldAddr fd63_1 rfl) rfl rfl ?_
   refine RS.q (Qt.ldB 0 ty3 rfl rfl rfl) rfl rfl ?_
   refine RS.p (Pu.fieldAddr fd63_1 rfl) rfl rfl ?_
   refine RS.q (Qt.ldB 1 ty3 rfl rfl rfl) rfl rfl ?_
   refine RS.p (Pu.bin rfl rfl rfl) rfl rfl ?_
   refine RS.p (Pu.pickT rfl rfl) rfl rfl ?_
   exact hJ4 _ _ ⟨dAndT hc3, rfl, rfl, trivial⟩ (fun w s => s)
  ·refine RS.no rfl rfl ?_
   refine RS.no rfl rfl ?_
   refine RS.no rfl rfl ?_
   refine RS.no rfl rfl ?_
   refine RS.no rfl rfl ?_
   refine RS.p (Pu.pickF rfl rfl) rfl rfl ?_
   exact hJ4 _ _ ⟨dAndF hc3, rfl, rfl, trivial⟩ (fun w s => s)
theorem throngref0_CopyCommand_walk (a0_a : Cmd) (w : World) {v0 : Value} (h0 : R (hpOf w) a0_a.units [v0]) {r : Cmd} (H : throngref0_CopyCommand a0_a = some r) : Calls Try.prog 46 #[.agg #[.int .i64 a0_a.player, .int .i64 a0_a.seq, .int .i64 a0_a.kind, .int .i64 a0_a.n, v0, .int .i64 a0_a.tile, .int .i64 a0_a.w, .int .i64 a0_a.h, .int .i64 a0_a.pos.x, .int .i64 a0_a.pos.y]] w fun e w' => ∃ q1 : (Option Nat × Nat), e = .returned (.agg #[.int .i64 r.player, .int .i64 r.seq, .int .i64 r.kind, .int .i64 r.n, rowV q1 r.units.length, .int .i64 r.tile, .int .i64 r.w, .int .i64 r.h, .int .i64 r.pos.x, .int .i64 r.pos.y]) ∧ Sat w [row nilH 3 (rowV q1 r.units.length) r.units] w' := by
 have hm0 := R_max h0
 obtain ⟨p0, c0, rfl⟩ := R_form h0
 unfold throngref0_CopyCommand at H
 refine T.enter (args := [_]) (S := Sat w []) Try.func46 rfl rfl (Sat.start w) ?_
 refine T.seq fun K1 hK1 => ?_
 refine T.region ?_
 refine RS.solid (Sd.box (cs := [_, _, _, _, _, _, _, _, _, _]) rfl rfl) rfl rfl fun b1 => ?_
 refine RS.solid (Sd.alloc zr63 rfl) rfl rfl fun b2 => ?_
 refine RS.nil (hK1 _ _ ?_)
 refine T.seq fun K2 hK2 => ?_
 refine T.region ?_
 refine RS.q (Qt.ldBA (us := [_, _, _, _, _, _, _, _, _, _]) 0 ty63 rfl rfl rfl rfl) rfl rfl ?_
 refine RS.solid (Sd.alloc zr63 rfl) rfl rfl fun b3 => ?_
 refine RS.solid (Sd.stB (cs' := [_, _, _, _, _, _, _, _, _, _]) 2 ty63 rfl rfl rfl rfl rfl rfl rfl rfl) rfl rfl fun _ => ?_
 refine RS.nil (hK2 _ _ ?_)
 refine T.seq fun K3 hK3 => ?_
 refine T.region ?_
 refine RS.p (Pu.fieldAddr fd63_4 rfl) rfl rfl ?_
 refine RS.q (Qt.ldB 0 ty23 rfl rfl rfl) rfl rfl ?_
 obtain ⟨x4, hx4, H⟩ := bindE H
 refine RS.solid (Sd.callN (vs := [.slice p0 a0_a.units.length c0]) ent28 rfl (fun w s => throngref0_CopyNumbers_walk a0_a.units w ((Rd.base h0) w s) hx4)) rfl rfl fun q5 => ?_
 refine RS.p (Pu.fieldAddr fd63_4 rfl) rfl rfl ?_
 refine RS.solid (Sd.stB (cs' := [_, _, _, _, _, _, _, _, _, _]) 2 ty23 rfl rfl rfl rfl rfl rfl rfl rfl) rfl rfl fun _ => ?_
 refine RS.nil (hK3 _ _ (T.conseq (fr' := [(2, _), (3, _)]) ?_ ⟨rfl, rfl, trivial⟩ (fun _ s => s)))
 refine T.seq fun K4 hK4 => ?_
 refine T.region ?_
 refine RS.q (Qt.ldBA (us := [_, _, _, _, _, _, _, _, _, _]) 2 ty63 rfl rfl rfl rfl) rfl rfl ?_
 refine RS.solid (Sd.stB (cs' := [_, _, _, _, _, _, _, _, _, _]) 1 ty63 rfl rfl rfl rfl rfl rfl rfl rfl) rfl rfl fun _ => ?_
 refine RS.nil (hK4 _ _ ?_)
 obtain rfl := Option.some.inj H
 refine T.rt (Cont.retC 1 rfl ty63 rfl rfl rfl fun w' s => ?_)
 exact ⟨q5, rfl, s.pick [3] (by decide) rfl⟩
theorem throngref0_EqCommands_walk (a0_a : List Cmd) (a1_b : List Cmd) (w : World) {v0 v1 : Value} (h0 : R (hpOf w) a0_a [v0]) (h1 : R (hpOf w) a1_b [v1]) {r : Bool} (H : throngref0_EqCommands a0_a a1_b = some r) : Calls Try.prog 19 #[v0, v1] w fun e w' => e = .returned (.bool r) ∧ Ext w w' := by
 have hm0 := R_max h0
 obtain ⟨p0, c0, rfl⟩ := R_form h0
 have hm1 := R_max h1
 obtain ⟨p1, c1, rfl⟩ := R_form h1
 unfold throngref0_EqCommands at H
 refine T.enter (args := [_, _]) (S := Sat w []) Try.func19 rfl rfl (Sat.start w) ?_
 refine T.seq fun K1 hK1 => ?_
 refine T.region ?_
 refine RS.p (Pu.assign rfl) rfl rfl ?_
 refine RS.nil (hK1 _ _ ?_)
 refine T.seq fun K2 hK2 => ?_
 refine T.seq fun K3 hK3 => ?_
 refine T.region ?_
 refine RS.p (Pu.move rfl) rfl rfl ?_
 refine RS.p (Pu.lenSl sl33 rfl) rfl rfl ?_
 refine RS.p (Pu.move rfl) rfl rfl ?_
 refine RS.p (Pu.lenSl sl33 rfl) rfl rfl ?_
 refine RS.p (Pu.bin rfl rfl rfl) rfl rfl ?_
 refine RS.nil (hK3 _ _ ?_)
 refine T.condP rfl (fun hc1 => ?_) (fun hc1 => ?_)
 ·have H := ifT hc1 H
  refine T.conseq (fr' := []) ?_ trivial (fun _ s => s)
  refine T.seq fun K4 hK4 => ?_
  refine T.region ?_
  refine RS.p (Pu.assign rfl) rfl rfl ?_
  refine RS.nil (hK4 _ _ ?_)
  obtain rfl := Option.some.inj H
  refine T.rt (Cont.ret1 rfl rfl fun w' s => ?_)
  exact ⟨rfl, s.ext⟩
 ·have H := ifF hc1 H
  refine T.skip (hK2 _ _ (T.conseq (fr' := [(0, _), (1, _)]) ?_ ⟨rfl, rfl, trivial⟩ (fun _ s => s)))
  refine T.seq fun K5 hK5 => ?_
  refine T.seq fun K6 hK6 => ?_
  refine T.region ?_
  refine RS.p (Pu.assign rfl) rfl rfl ?_
  refine RS.nil (hK6 _ _ ?_)
  refine T.joinE (σ := Unit) (γ := Unit) H Ex.go [] trivial (fun _ _ => []) (fun _ _ => Sat w []) ?_ ?_
  ·rintro ⟨⟩ ⟨⟩ H
   try dsimp only [Ex.then] at H
   refine Cont.conseq (fr' := []) ?_ trivial (fun _ s => s)
   refine id (hK5 _ _ ?_)
   refine T.seq fun K7 hK7 => ?_
   refine T.region ?_
   refine RS.p (Pu.assign rfl) rfl rfl ?_
   refine RS.nil (hK7 _ _ ?_)
   obtain rfl := Option.some.inj H
   refine T.rt (Cont.ret1 rfl rfl fun w' s => ?_)
   exact ⟨rfl, s.ext⟩
  ·intro z2 hz2 HX2 hJ2
   refine T.block ?_
   refine T.loopA (γ := Unit) hz2 [(0, _), (1, _)] (fun v3 _ => [(5, .int .i64 v3)]) (fun v3 _ => Sat w []) () ⟨rfl, rfl, trivial⟩ ⟨rfl, trivial⟩ (fun w s => s) ?_
   rintro v3 ⟨⟩ y4 H hd2 KL2 hL2
   try dsimp only [Ex.then] at H
   refine T.conseq (fr' := [(5, _), (0, _), (1, _)]) ?_ ⟨rfl, rfl, rfl, trivial⟩ (fun _ s => s)
   refine T.seq fun K8 hK8 => ?_
   refine T.seq fun K9 hK9 => ?_
   refine T.region ?_
   refine RS.p (Pu.move rfl) rfl rfl ?_
   refine RS.p (Pu.move rfl) rfl rfl ?_
   refine RS.p (Pu.lenSl sl33 rfl) rfl rfl ?_
   refine RS.p (Pu.bin rfl rfl rfl) rfl rfl ?_
   refine RS.nil (hK9 _ _ ?_)
   refine T.condP rfl (fun hc5 => ?_) (fun hc5 => ?_)
   ·have H := ifT hc5 H
    refine T.skip (hK8 _ _ (T.conseq (fr' := [(0, _), (1, _), (5, _)]) ?_ ⟨rfl, rfl, rfl, trivial⟩ (fun _ s => s)))
    refine T.seq fun K10 hK10 => ?_
    refine T.block ?_
    refine T.seq fun K11 hK11 => ?_
    refine T.drawn (fun _ => True) [(0, .pu), (1, .pu), (2, .pu), (3, .rd), (4, .pu), (5, .pu), (6, .pu), (7, .rd), (8, .rd), (9, .pu)] mixed (ClE.sat _ _) (by kernel_rfl) ?_
    refine RD.p (fun _ _ => trivial) rfl (Pu.move rfl) rfl rfl ?_
    refine RD.p (fun _ _ => trivial) rfl (Pu.move rfl) rfl rfl ?_
    obtain ⟨g6, H⟩ := gdE H
    obtain ⟨bl7, ol8, rfl⟩ := R_ptr h0 (ne_of_pos (pos_of g6))
    refine RD.p (fun _ _ => trivial) rfl (Pu.indexSl sl33 rfl rfl g6) rfl rfl ?_
    obtain ⟨c9, hc10, ha11⟩ := R_el (α := Cmd) h0 g6
    obtain ⟨u12, rfl, hu12⟩ := hc10
    obtain ⟨p13, cc14, rfl⟩ := R_form hu12
    refine RD.q (fun _ _ => trivial) rfl (Qt.ldZ (cs := [_, _, _, _, _, _, _, _, _, _]) ty63 rfl ha11 Held.base rfl) rfl rfl ?_
    refine RD.p (fun _ _ => trivial) rfl (Pu.move rfl) rfl rfl ?_
    refine RD.p (fun _ _ => trivial) rfl (Pu.move rfl) rfl rfl ?_
    obtain ⟨g15, H⟩ := gdE H
    obtain ⟨bl16, ol17, rfl⟩ := R_ptr h1 (ne_of_pos (pos_of g15))
    refine RD.p (fun _ _ => trivial) rfl (Pu.indexSl sl33 rfl rfl g15) rfl rfl ?_
    obtain ⟨c18, hc19, ha20⟩ := R_el (α := Cmd) h1 g15
    obtain ⟨u21, rfl, hu21⟩ := hc19
    obtain ⟨p22, cc23, rfl⟩ := R_form hu21
    refine RD.q (fun _ _ => trivial) rfl (Qt.ldZ (cs := [_, _, _, _, _, _, _, _, _, _]) ty63 rfl ha20 Held.base rfl) rfl rfl ?_
    obtain ⟨x24, hx24, H⟩ := bindE H
    refine RD.q (fun _ _ => trivial) rfl (Qt.call (vs := [.agg #[.int .i64 ((gi a0_a v3).player), .int .i64 ((gi a0_a v3).seq), .int .i64 ((gi a0_a v3).kind), .int .i64 ((gi a0_a v3).n), .slice p13 ((gi a0_a v3).units).length cc14, .int .i64 ((gi a0_a v3).tile), .int .i64 ((gi a0_a v3).w), .int .i64 ((gi a0_a v3).h), .int .i64 (((gi a0_a v3).pos).x), .int .i64 (((gi a0_a v3).pos).y)], .agg #[.int .i64 ((gi a1_b v3).player), .int .i64 ((gi a1_b v3).seq), .int .i64 ((gi a1_b v3).kind), .int .i64 ((gi a1_b v3).n), .slice p22 ((gi a1_b v3).units).length cc23, .int .i64 ((gi a1_b v3).tile), .int .i64 ((gi a1_b v3).w), .int .i64 ((gi a1_b v3).h), .int .i64 (((gi a1_b v3).pos).x), .int .i64 (((gi a1_b v3).pos).y)]]) ent45 rfl fun w s => throngref0_EqCommand_walk (gi a0_a v3) (gi a1_b v3) w ((Rd.base hu12) w s) ((Rd.base hu21) w s) hx24) rfl rfl ?_
    refine RD.p (fun _ _ => trivial) rfl (Pu.not rfl) rfl rfl ?_
    refine RD.nil (hK11 _ _ ?_)
    refine T.cond rfl (fun hc25 => ?_) (fun hc25 => ?_)
    ·have H := ifT hc25 H
     refine T.conseq (fr' := []) ?_ trivial (fun _ s => s)
     refine T.seq fun K12 hK12 => ?_
     refine T.region ?_
     refine RS.p (Pu.assign rfl) rfl rfl ?_
     refine RS.nil (hK12 _ _ ?_)
     obtain rfl := hd2 _ H
     have H := HX2
     obtain rfl := Option.some.inj H
     refine T.rt (Cont.ret1 rfl rfl fun w' s => ?_)
     exact ⟨rfl, s.ext⟩
    ·have H := ifB hc25 H
     refine T.skip (hK10 _ _ (T.conseq (fr' := [(0, _), (1, _), (5, _)]) ?_ ⟨rfl, rfl, rfl, trivial⟩ (fun _ s => s)))
     refine T.region ?_
     refine RS.p (Pu.move rfl) rfl rfl ?_
     obtain ⟨g26, H⟩ := gdE H
     refine RS.p (Pu.addS rfl rfl g26) rfl rfl ?_
     refine RS.p (Pu.assign rfl) rfl rfl ?_
     refine RS.nil (hL2 _ _ (v3 + 1) () H ⟨rfl, rfl, trivial⟩ ⟨rfl, trivial⟩ (fun w s => s))
   ·have H := ifF hc5 H
    obtain rfl := hd2 _ H
    refine T.xt (hJ2 _ _ () () HX2 trivial trivial (fun w s => s))
theorem throngref0_CopyCommands_walk (a0_a : List Cmd) (w : World) {v0 : Value} (h0 : R (hpOf w) a0_a [v0]) {r : List Cmd} (H : throngref0_CopyCommands a0_a = some r) : Calls Try.prog 20 #[v0] w fun e w' => ∃ q1 : (Option Nat × Nat), e = .returned (rowV q1 r.length) ∧ Sat w [drow 63 (rowV q1 r.length) r] w' := by
 have hm0 := R_max h0
 obtain ⟨p0, c0, rfl⟩ := R_form h0
 unfold throngref0_CopyCommands at H
 refine T.enter (args := [_]) (S := Sat w []) Try.func20 rfl rfl (Sat.start w) ?_
 refine T.seq fun K1 hK1 => ?_
 refine T.region ?_
 refine RS.p (Pu.assign rfl) rfl rfl ?_
 refine RS.nil (hK1 _ _ ?_)
 refine T.seq fun K2 hK2 => ?_
 refine T.region ?_
 refine RS.p (Pu.assign rfl) rfl rfl ?_
 refine RS.nil (hK2 _ _ ?_)
 refine T.seq fun K3 hK3 => ?_
 refine T.seq fun K4 hK4 => ?_
 refine T.region ?_
 refine RS.p (Pu.assign rfl) rfl rfl ?_
 refine RS.nil (hK4 _ _ ?_)
 refine T.joinE (σ := List Cmd) (γ := (Option Nat × Nat)) H (fun s => s) [] trivial (fun v2 q3 => [(3, rowV q3 v2.length)]) (fun v2 q3 => Sat w [drow 63 (rowV q3 v2.length) v2]) ?_ ?_
 ·rintro v2 q3 H
  try dsimp only [Ex.then] at H
  refine Cont.conseq (fr' := [(3, _)]) ?_ ⟨rfl, trivial⟩ (fun _ s => s)
  refine id (hK3 _ _ ?_)
  refine T.seq fun K5 hK5 => ?_
  refine T.region ?_
  refine RS.p (Pu.move rfl) rfl rfl ?_
  refine RS.p (Pu.assign rfl) rfl rfl ?_
  refine RS.nil (hK5 _ _ ?_)
  obtain rfl := Option.some.inj H
  refine T.rt (Cont.ret1 rfl rfl fun w' s => ?_)
  exact ⟨q3, rfl, s.pick [0] (by decide) rfl⟩
 ·intro z1 hz1 HX1 hJ1
  refine T.block ?_
  refine T.loopA (γ := (Option Nat × Nat)) hz1 [(0, _)] (fun (l4, v6) q5 => [(3, rowV q5 l4.length), (4, .int .i64 v6)]) (fun (l4, v6) q5 => Sat w [drow 63 (rowV q5 l4.length) l4]) (none, 0) ⟨rfl, trivial⟩ ⟨rfl, rfl, trivial⟩ (fun w s => (s.nilRowG (α := Cmd) 63).pick [0] (by decide) rfl) ?_
  rintro ⟨l4, v6⟩ q5 y7 H hd1 KL1 hL1
  try dsimp only [Ex.then] at H
  refine T.conseq (fr' := [(3, _), (4, _), (0, _)]) ?_ ⟨rfl, rfl, rfl, trivial⟩ (fun _ s => s)
  refine T.seq fun K6 hK6 => ?_
  refine T.seq fun K7 hK7 => ?_
  refine T.region ?_
  refine RS.p (Pu.move rfl) rfl rfl ?_
  refine RS.p (Pu.move rfl) rfl rfl ?_
  refine RS.p (Pu.lenSl sl33 rfl) rfl rfl ?_
  refine RS.p (Pu.bin rfl rfl rfl) rfl rfl ?_
  refine RS.nil (hK7 _ _ ?_)
  refine T.condP rfl (fun hc8 => ?_) (fun hc8 => ?_)
  ·have H := ifT hc8 H
   refine T.skip (hK6 _ _ (T.conseq (fr' := [(0, _), (3, _), (4, _)]) ?_ ⟨rfl, rfl, rfl, trivial⟩ (fun _ s => s)))
   refine T.seq fun K8 hK8 => ?_
   refine T.block ?_
   refine T.region ?_
   refine RS.p (Pu.move rfl) rfl rfl ?_
   refine RS.p (Pu.move rfl) rfl rfl ?_
   refine RS.p (Pu.move rfl) rfl rfl ?_
   obtain ⟨g9, H⟩ := gdE H
   obtain ⟨bl10, ol11, rfl⟩ := R_ptr h0 (ne_of_pos (pos_of g9))
   refine RS.p (Pu.indexSl sl33 rfl rfl g9) rfl rfl ?_
   obtain ⟨c12, hc13, ha14⟩ := R_el (α := Cmd) h0 g9
   obtain ⟨u15, rfl, hu15⟩ := hc13
   obtain ⟨p16, cc17, rfl⟩ := R_form hu15
   refine RS.q (Qt.ldZ (cs := [_, _, _, _, _, _, _, _, _, _]) ty63 rfl ha14 Held.base rfl) rfl rfl ?_
   obtain ⟨x18, hx18, H⟩ := bindE H
   refine RS.solid (Sd.callN (vs := [.agg #[.int .i64 ((gi a0_a v6).player), .int .i64 ((gi a0_a v6).seq), .int .i64 ((gi a0_a v6).kind), .int .i64 ((gi a0_a v6).n), .slice p16 ((gi a0_a v6).units).length cc17, .int .i64 ((gi a0_a v6).tile), .int .i64 ((gi a0_a v6).w), .int .i64 ((gi a0_a v6).h), .int .i64 (((gi a0_a v6).pos).x), .int .i64 (((gi a0_a v6).pos).y)]]) ent46 rfl (fun w s => throngref0_CopyCommand_walk (gi a0_a v6) w ((Rd.base hu15) w s) hx18)) rfl rfl fun q19 => ?_
   refine RS.solid (Sd.litS (cs := [_, _, _, _, _, _, _, _, _, _]) sl33 zr63 rfl rfl rfl rfl rfl) rfl rfl fun b20 => ?_
   obtain ⟨g22, H⟩ := gdE H
   refine RS.solid (Sd.pre (fun w s => (Sat.starAt 1 3 (Sat.starAt 1 4 ((s.noStars).noStars) rfl rfl (by decide)) rfl rfl (by decide))) (Sd.appL (α := Cmd) 0 2 1 ([x18] : List Cmd) rfl rfl rfl (DRF.cons' (α := Cmd) (x := x18) (fun _ h => ⟨_, rfl, h⟩) DRF.nil') rfl sl33 zr63 rfl rfl rfl rfl g22 (by decide))) rfl rfl fun q21 => ?_
   refine RS.p (Pu.assign rfl) rfl rfl ?_
   refine RS.nil (hK8 _ _ (T.conseq (fr' := [(0, _), (3, _), (4, _)]) ?_ ⟨rfl, rfl, rfl, trivial⟩ (fun _ s => s)))
   refine T.region ?_
   refine RS.p (Pu.move rfl) rfl rfl ?_
   obtain ⟨g23, H⟩ := gdE H
   refine RS.p (Pu.addS rfl rfl g23) rfl rfl ?_
   refine RS.p (Pu.assign rfl) rfl rfl ?_
   refine RS.nil (hL1 _ _ ((l4 ++ ([x18] : List Cmd)), (v6 + 1)) q21 H ⟨rfl, trivial⟩ ⟨rfl, rfl, trivial⟩ (fun w s => s.pick [0] (by decide) rfl))
  ·have H := ifF hc8 H
   obtain rfl := hd1 _ H
   refine T.xt (hJ1 _ _ l4 q5 HX1 trivial ⟨rfl, trivial⟩ (fun w s => s))
theorem thronglaw0_Within_walk (a0_i : Int) (a1_n : Int) (w : World) {r : Int} (H : thronglaw0_Within a0_i a1_n = some r) : Calls Try.prog 8 #[.int .i64 a0_i, .int .i64 a1_n] w fun e w' => e = .returned (.int .i64 r) ∧ Ext w w' := by
 unfold thronglaw0_Within at H
 refine T.enter (args := [_, _]) (S := Sat w []) Try.func8 rfl rfl (Sat.start w) ?_
 refine T.seq fun K1 hK1 => ?_
 refine T.region ?_
 refine RS.p (Pu.assign rfl) rfl rfl ?_
 refine RS.nil (hK1 _ _ ?_)
 refine T.seq fun K2 hK2 => ?_
 refine T.region ?_
 refine RS.p (Pu.move rfl) rfl rfl ?_
 refine RS.p (Pu.convUW us3 ul80 rfl) rfl rfl ?_
 refine RS.p (Pu.move rfl) rfl rfl ?_
 refine RS.p (Pu.convUW us3 ul80 rfl) rfl rfl ?_
 obtain ⟨g1, H⟩ := gdE H
 refine RS.p (Pu.remN rfl rfl g1) rfl rfl ?_
 obtain ⟨g2, H⟩ := gdE H
 refine RS.p (Pu.convS us80 ul3 rfl g2) rfl rfl ?_
 refine RS.p (Pu.assign rfl) rfl rfl ?_
 refine RS.nil (hK2 _ _ (T.conseq (fr' := [(4, _)]) ?_ ⟨rfl, trivial⟩ (fun _ s => s)))
 obtain rfl := Option.some.inj H
 refine T.rt (Cont.ret1 rfl rfl fun w' s => ?_)
 exact ⟨rfl, s.ext⟩
theorem kind_May_walk (a0_k : Int) (w : World) {r : Bool} (H : kind_May a0_k = some r) : Calls Try.prog 87 #[.int .i64 a0_k] w fun e w' => e = .returned (.bool r) ∧ Ext w w' := by
 unfold kind_May at H
 refine T.enter (args := [_]) (S := Sat w []) Try.func87 rfl rfl (Sat.start w) ?_
 refine T.seq fun K1 hK1 => ?_
 refine T.region ?_
 refine RS.p (Pu.assign rfl) rfl rfl ?_
 refine RS.nil (hK1 _ _ ?_)
 refine T.seq fun K2 hK2 => ?_
 refine T.region ?_
 refine RS.p (Pu.move rfl) rfl rfl ?_
 refine RS.p (Pu.bin rfl rfl rfl) rfl rfl ?_
 refine RS.p (Pu.move rfl) rfl rfl ?_
 refine RS.joinV 3 8 (.bool (decide ((0 ≤ a0_k) ∧ (a0_k < 4)))) [(2, _)] ⟨rfl, trivial⟩ ?_ ?_
 ·refine RS.p (Pu.assign rfl) rfl rfl ?_
  refine RS.nil (hK2 _ _ ?_)
  obtain rfl := Option.some.inj H
  refine T.rt (Cont.ret1 rfl rfl fun w' s => ?_)
  exact ⟨rfl, s.ext⟩
 ·intro hJ2
  refine RS.splitP 5 rfl (fun hc1 => ?_) (fun hc1 => ?_)
  ·refine RS.p (Pu.move rfl) rfl rfl ?_
   refine RS.p (Pu.bin rfl rfl rfl) rfl rfl ?_
   refine RS.p (Pu.pickT rfl rfl) rfl rfl ?_
   exact hJ2 _ _ ⟨dAndT hc1, rfl, trivial⟩ (fun w s => s)
  ·refine RS.no rfl rfl ?_
   refine RS.no rfl rfl ?_
   refine RS.p (Pu.pickF rfl rfl) rfl rfl ?_
   exact hJ2 _ _ ⟨dAndF hc1, rfl, trivial⟩ (fun w s => s)
theorem disc_Place_walk (a0_p : Vec) (w : World) {r : Bool} (H : disc_Place a0_p = some r) : Calls Try.prog 88 #[.agg #[.int .i64 a0_p.x, .int .i64 a0_p.y]] w fun e w' => e = .returned (.bool r) ∧ Ext w w' := by
 unfold disc_Place at H
 refine T.enter (args := [_]) (S := Sat w []) Try.func88 rfl rfl (Sat.start w) ?_
 refine T.seq fun K1 hK1 => ?_
 refine T.region ?_
 refine RS.solid (Sd.box (cs := [_, _]) rfl rfl) rfl rfl fun b1 => ?_
 refine RS.p (Pu.assign rfl) rfl rfl ?_
 refine RS.nil (hK1 _ _ ?_)
 refine T.seq fun K2 hK2 => ?_
 refine T.region ?_
 refine RS.p (Pu.fieldAddr fd61_0 rfl) rfl rfl ?_
 refine RS.q (Qt.ldB 0 ty2 rfl rfl rfl) rfl rfl ?_
 refine RS.p (Pu.bin rfl rfl rfl) rfl rfl ?_
 refine RS.p (Pu.move rfl) rfl rfl ?_
 refine RS.joinV 4 10 (.bool (decide (((-1099511627776) ≤ a0_p.x) ∧ (a0_p.x ≤ 1099511627776)))) [(1, _), (2, _)] ⟨rfl, rfl, trivial⟩ ?_ ?_
 ·refine RS.p (Pu.move rfl) rfl rfl ?_
  refine RS.joinV 4 15 (.bool (decide ((((-1099511627776) ≤ a0_p.x) ∧ (a0_p.x ≤ 1099511627776)) ∧ ((-1099511627776) ≤ a0_p.y)))) [(1, _), (2, _)] ⟨rfl, rfl, trivial⟩ ?_ ?_
  ·refine RS.p (Pu.move rfl) rfl rfl ?_
   refine RS.joinV 4 20 (.bool (decide (((((-1099511627776) ≤ a0_p.x) ∧ (a0_p.x ≤ 1099511627776)) ∧ ((-1099511627776) ≤ a0_p.y)) ∧ (a0_p.y ≤ 1099511627776)))) [(2, _)] ⟨rfl, trivial⟩ ?_ ?_
   ·refine RS.p (Pu.assign rfl) rfl rfl ?_
    refine RS.nil (hK2 _ _ ?_)
    obtain rfl := Option.some.inj H
    refine T.rt (Cont.ret1 rfl rfl fun w' s => ?_)
    exact ⟨rfl, s.ext⟩
   ·intro hJ7
    refine RS.splitP 16 rfl (fun hc6 => ?_) (fun hc6 => ?_)
    ·refine RS.p (Pu.fieldAddr fd61_1 rfl) rfl rfl ?_
     refine RS.q (Qt.ldB 0 ty2 rfl rfl rfl) rfl rfl ?_
     refine RS.p (Pu.bin rfl rfl rfl) rfl rfl ?_
     refine RS.p (Pu.pickT rfl rfl) rfl rfl ?_
     exact hJ7 _ _ ⟨dAndT hc6, rfl, trivial⟩ (fun w s => s)
    ·refine RS.no rfl rfl ?_
     refine RS.no rfl rfl ?_
     refine RS.no rfl rfl ?_
     refine RS.p (Pu.pickF rfl rfl) rfl rfl ?_
     exact hJ7 _ _ ⟨dAndF hc6, rfl, trivial⟩ (fun w s => s)
  ·intro hJ5
   refine RS.splitP 11 rfl (fun hc4 => ?_) (fun hc4 => ?_)
   ·refine RS.p (Pu.fieldAddr fd61_1 rfl) rfl rfl ?_
    refine RS.q (Qt.ldB 0 ty2 rfl rfl rfl) rfl rfl ?_
    refine RS.p (Pu.bin rfl rfl rfl) rfl rfl ?_
    refine RS.p (Pu.pickT rfl rfl) rfl rfl ?_
    exact hJ5 _ _ ⟨dAndT hc4, rfl, rfl, trivial⟩ (fun w s => s)
   ·refine RS.no rfl rfl ?_
    refine RS.no rfl rfl ?_
    refine RS.no rfl rfl ?_
    refine RS.p (Pu.pickF rfl rfl) rfl rfl ?_
    exact hJ5 _ _ ⟨dAndF hc4, rfl, rfl, trivial⟩ (fun w s => s)
 ·intro hJ3
  refine RS.splitP 6 rfl (fun hc2 => ?_) (fun hc2 => ?_)
  ·refine RS.p (Pu.fieldAddr fd61_0 rfl) rfl rfl ?_
   refine RS.q (Qt.ldB 0 ty2 rfl rfl rfl) rfl rfl ?_
   refine RS.p (Pu.bin rfl rfl rfl) rfl rfl ?_
   refine RS.p (Pu.pickT rfl rfl) rfl rfl ?_
   exact hJ3 _ _ ⟨dAndT hc2, rfl, rfl, trivial⟩ (fun w s => s)
  ·refine RS.no rfl rfl ?_
   refine RS.no rfl rfl ?_
   refine RS.no rfl rfl ?_
   refine RS.p (Pu.pickF rfl rfl) rfl rfl ?_
   exact hJ3 _ _ ⟨dAndF hc2, rfl, rfl, trivial⟩ (fun w s => s)
theorem command_units_walk (a0_l : List Int) (w : World) {v0 : Value} (h0 : R (hpOf w) a0_l [v0]) {r : Bool} (H : command_units a0_l = some r) : Calls Try.prog 89 #[v0] w fun e w' => e = .returned (.bool r) ∧ Ext w w' := by
 have hm0 := R_max h0
 obtain ⟨p0, c0, rfl⟩ := R_form h0
 unfold command_units at H
 refine T.enter (args := [_]) (S := Sat w []) Try.func89 rfl rfl (Sat.start w) ?_
 refine T.seq fun K1 hK1 => ?_
 refine T.region ?_
 refine RS.p (Pu.assign rfl) rfl rfl ?_
 refine RS.nil (hK1 _ _ ?_)
 refine T.seq fun K2 hK2 => ?_
 refine T.seq fun K3 hK3 => ?_
 refine T.region ?_
 refine RS.p (Pu.move rfl) rfl rfl ?_
 refine RS.p (Pu.lenSl sl23 rfl) rfl rfl ?_
 refine RS.p (Pu.move rfl) rfl rfl ?_
 refine RS.nil (hK3 _ _ ?_)
 refine T.joinE (σ := Unit) (γ := Unit) H Ex.go [(0, _)] ⟨rfl, trivial⟩ (fun _ _ => []) (fun _ _ => Sat w []) ?_ ?_
 ·rintro ⟨⟩ ⟨⟩ H
  try dsimp only [Ex.then] at H
  refine Cont.conseq (fr' := [(0, _)]) ?_ ⟨rfl, trivial⟩ (fun _ s => s)
  refine id (hK2 _ _ ?_)
  refine T.seq fun K4 hK4 => ?_
  refine T.region ?_
  refine RS.p (Pu.move rfl) rfl rfl ?_
  refine RS.p (Pu.lenSl sl23 rfl) rfl rfl ?_
  refine RS.p (Pu.bin rfl rfl rfl) rfl rfl ?_
  refine RS.p (Pu.move rfl) rfl rfl ?_
  refine RS.joinV 4 39 (.bool (decide ((1 ≤ (a0_l.length : Int)) ∧ ((a0_l.length : Int) ≤ 64)))) [] trivial ?_ ?_
  ·refine RS.p (Pu.assign rfl) rfl rfl ?_
   refine RS.nil (hK4 _ _ ?_)
   obtain rfl := Option.some.inj H
   refine T.rt (Cont.ret1 rfl rfl fun w' s => ?_)
   exact ⟨rfl, s.ext⟩
  ·intro hJ3
   refine RS.splitP 35 rfl (fun hc2 => ?_) (fun hc2 => ?_)
   ·refine RS.p (Pu.move rfl) rfl rfl ?_
    refine RS.p (Pu.lenSl sl23 rfl) rfl rfl ?_
    refine RS.p (Pu.bin rfl rfl rfl) rfl rfl ?_
    refine RS.p (Pu.pickT rfl rfl) rfl rfl ?_
    exact hJ3 _ _ ⟨dAndT hc2, trivial⟩ (fun w s => s)
   ·refine RS.no rfl rfl ?_
    refine RS.no rfl rfl ?_
    refine RS.no rfl rfl ?_
    refine RS.p (Pu.pickF rfl rfl) rfl rfl ?_
    exact hJ3 _ _ ⟨dAndF hc2, trivial⟩ (fun w s => s)
 ·intro z1 hz1 HX1 hJ1
  refine T.block ?_
  refine T.loopA (γ := Unit) hz1 [(0, _), (5, _), (6, _)] (fun v4 _ => [(7, .int .i64 v4)]) (fun v4 _ => Sat w []) () ⟨rfl, rfl, rfl, trivial⟩ ⟨rfl, trivial⟩ (fun w s => s) ?_
  rintro v4 ⟨⟩ y5 H hd1 KL1 hL1
  try dsimp only [Ex.then] at H
  refine T.conseq (fr' := [(7, _), (0, _), (5, _), (6, _)]) ?_ ⟨rfl, rfl, rfl, rfl, trivial⟩ (fun _ s => s)
  refine T.seq fun K5 hK5 => ?_
  refine T.region ?_
  refine RS.p (Pu.bin rfl rfl rfl) rfl rfl ?_
  refine RS.nil (hK5 _ _ ?_)
  refine T.seq fun K6 hK6 => ?_
  refine T.condP rfl (fun hc6 => ?_) (fun hc6 => ?_)
  ·have H := ifT hc6 H
   refine T.skip (hK6 _ _ ?_)
   refine T.seq fun K7 hK7 => ?_
   refine T.block ?_
   refine T.seq fun K8 hK8 => ?_
   refine T.region ?_
   refine RS.p (Pu.move rfl) rfl rfl ?_
   obtain ⟨g7, H⟩ := gdE H
   obtain ⟨bl8, ol9, rfl⟩ := R_ptr h0 (ne_of_pos (pos_of g7))
   refine RS.p (Pu.indexSl sl23 rfl rfl g7) rfl rfl ?_
   refine RS.q (Qt.ld0 (α := Int) (Rd.base h0) ty3 rfl rfl g7 (by rintro _ _ rfl; rfl)) rfl rfl ?_
   refine RS.p (Pu.assign rfl) rfl rfl ?_
   refine RS.p (Pu.assign rfl) rfl rfl ?_
   refine RS.nil (hK8 _ _ (T.conseq (fr' := [(0, _), (3, _), (4, _), (5, _), (6, _), (7, _)]) ?_ ⟨rfl, rfl, rfl, rfl, rfl, rfl, trivial⟩ (fun _ s => s)))
   refine T.seq fun K9 hK9 => ?_
   refine T.region ?_
   refine RS.p (Pu.move rfl) rfl rfl ?_
   refine RS.p (Pu.bin rfl rfl rfl) rfl rfl ?_
   refine RS.p (Pu.move rfl) rfl rfl ?_
   refine RS.joinV 3 17 (.bool (decide (((gi a0_l v4) < 1) ∨ (1099511627776 < (gi a0_l v4))))) [(0, _), (3, _), (4, _), (5, _), (6, _), (7, _)] ⟨rfl, rfl, rfl, rfl, rfl, rfl, trivial⟩ ?_ ?_
   ·refine RS.p (Pu.move rfl) rfl rfl ?_
    obtain ⟨g14, H⟩ := gdE H
    obtain ⟨g15, H⟩ := gdE H
    refine RS.joinV 12 30 (.bool (decide ((((gi a0_l v4) < 1) ∨ (1099511627776 < (gi a0_l v4))) ∨ ((0 < v4) ∧ ((gi a0_l v4) ≤ (gi a0_l (v4 - 1))))))) [(0, _), (5, _), (6, _), (7, _)] ⟨rfl, rfl, rfl, rfl, trivial⟩ ?_ ?_
    ·refine RS.nil (hK9 _ _ ?_)
     refine T.condP rfl (fun hc16 => ?_) (fun hc16 => ?_)
     ·have H := ifT hc16 H
      refine T.conseq (fr' := []) ?_ trivial (fun _ s => s)
      refine T.seq fun K10 hK10 => ?_
      refine T.region ?_
      refine RS.p (Pu.assign rfl) rfl rfl ?_
      refine RS.nil (hK10 _ _ ?_)
      obtain rfl := hd1 _ H
      have H := HX1
      obtain rfl := Option.some.inj H
      refine T.rt (Cont.ret1 rfl rfl fun w' s => ?_)
      exact ⟨rfl, s.ext⟩
     ·have H := ifF hc16 H
      refine T.skip (hK7 _ _ ?_)
      refine T.region ?_
      obtain ⟨g17, H⟩ := gdE H
      refine RS.p (Pu.addS rfl rfl g17) rfl rfl ?_
      refine RS.p (Pu.move rfl) rfl rfl ?_
      refine RS.nil (hL1 _ _ (v4 + 1) () H ⟨rfl, rfl, rfl, trivial⟩ ⟨rfl, trivial⟩ (fun w s => s))
    ·intro hJ13
     refine RS.splitP 18 rfl (fun hc12 => ?_) (fun hc12 => ?_)
     ·refine RS.no rfl rfl ?_
      refine RS.no rfl rfl ?_
      refine RS.no rfl rfl ?_
      refine RS.no rfl rfl ?_
      refine RS.no rfl rfl ?_
      refine RS.no rfl rfl ?_
      refine RS.no rfl rfl ?_
      refine RS.no rfl rfl ?_
      refine RS.no rfl rfl ?_
      refine RS.no rfl rfl ?_
      refine RS.no rfl rfl ?_
      refine RS.p (Pu.pickT rfl rfl) rfl rfl ?_
      exact hJ13 _ _ ⟨dOrT hc12, rfl, rfl, rfl, rfl, trivial⟩ (fun w s => s)
     ·refine RS.p (Pu.move rfl) rfl rfl ?_
      refine RS.p (Pu.bin rfl rfl rfl) rfl rfl ?_
      refine RS.p (Pu.move rfl) rfl rfl ?_
      refine RS.joinV 8 29 (.bool (decide ((0 < v4) ∧ ((gi a0_l v4) ≤ (gi a0_l (v4 - 1)))))) [(0, _), (3, _), (4, _), (5, _), (6, _), (7, _), (17, _), (18, _), (19, _), (20, _)] ⟨rfl, rfl, rfl, rfl, rfl, rfl, rfl, rfl, rfl, rfl, trivial⟩ ?_ ?_
      ·refine RS.p (Pu.pickF rfl rfl) rfl rfl ?_
       exact hJ13 _ _ ⟨dOrF hc12, rfl, rfl, rfl, rfl, trivial⟩ (fun w s => s)
      ·intro hJ19
       refine RS.splitP 21 rfl (fun hc18 => ?_) (fun hc18 => ?_)
       ·refine RS.p (Pu.move rfl) rfl rfl ?_
        refine RS.p (Pu.move rfl) rfl rfl ?_
        refine RS.p (Pu.subS rfl rfl ((g14 hc12) hc18)) rfl rfl ?_
        refine RS.p (Pu.indexSl sl23 rfl rfl ((g15 hc12) hc18)) rfl rfl ?_
        refine RS.q (Qt.ld0 (α := Int) (Rd.base h0) ty3 rfl rfl ((g15 hc12) hc18) (by rintro _ _ rfl; rfl)) rfl rfl ?_
        refine RS.p (Pu.move rfl) rfl rfl ?_
        refine RS.p (Pu.bin rfl rfl rfl) rfl rfl ?_
        refine RS.p (Pu.pickT rfl rfl) rfl rfl ?_
        exact hJ19 _ _ ⟨dAndT hc18, rfl, rfl, rfl, rfl, rfl, rfl, rfl, rfl, rfl, rfl, trivial⟩ (fun w s => s)
       ·refine RS.no rfl rfl ?_
        refine RS.no rfl rfl ?_
        refine RS.no rfl rfl ?_
        refine RS.no rfl rfl ?_
        refine RS.no rfl rfl ?_
        refine RS.no rfl rfl ?_
        refine RS.no rfl rfl ?_
        refine RS.p (Pu.pickF rfl rfl) rfl rfl ?_
        exact hJ19 _ _ ⟨dAndF hc18, rfl, rfl, rfl, rfl, rfl, rfl, rfl, rfl, rfl, rfl, trivial⟩ (fun w s => s)
   ·intro hJ11
    refine RS.splitP 14 rfl (fun hc10 => ?_) (fun hc10 => ?_)
    ·refine RS.no rfl rfl ?_
     refine RS.no rfl rfl ?_
     refine RS.p (Pu.pickT rfl rfl) rfl rfl ?_
     exact hJ11 _ _ ⟨dOrT hc10, rfl, rfl, rfl, rfl, rfl, rfl, trivial⟩ (fun w s => s)
    ·refine RS.p (Pu.move rfl) rfl rfl ?_
     refine RS.p (Pu.bin rfl rfl rfl) rfl rfl ?_
     refine RS.p (Pu.pickF rfl rfl) rfl rfl ?_
     exact hJ11 _ _ ⟨dOrF hc10, rfl, rfl, rfl, rfl, rfl, rfl, trivial⟩ (fun w s => s)
  ·have H := ifF hc6 H
   obtain rfl := hd1 _ H
   refine T.xt (hJ1 _ _ () () HX1 ⟨rfl, trivial⟩ trivial (fun w s => s))
theorem command_within_walk (a0_n : Int) (a1_least : Int) (a2_most : Int) (w : World) {r : Bool} (H : command_within a0_n a1_least a2_most = some r) : Calls Try.prog 77 #[.int .i64 a0_n, .int .i64 a1_least, .int .i64 a2_most] w fun e w' => e = .returned (.bool r) ∧ Ext w w' := by
 unfold command_within at H
 refine T.enter (args := [_, _, _]) (S := Sat w []) Try.func77 rfl rfl (Sat.start w) ?_
 refine T.seq fun K1 hK1 => ?_
 refine T.region ?_
 refine RS.p (Pu.assign rfl) rfl rfl ?_
 refine RS.nil (hK1 _ _ ?_)
 refine T.seq fun K2 hK2 => ?_
 refine T.region ?_
 refine RS.p (Pu.move rfl) rfl rfl ?_
 refine RS.p (Pu.move rfl) rfl rfl ?_
 refine RS.p (Pu.bin rfl rfl rfl) rfl rfl ?_
 refine RS.p (Pu.move rfl) rfl rfl ?_
 refine RS.joinV 4 14 (.bool (decide ((a1_least ≤ a0_n) ∧ (a0_n ≤ a2_most)))) [(6, _)] ⟨rfl, trivial⟩ ?_ ?_
 ·refine RS.p (Pu.assign rfl) rfl rfl ?_
  refine RS.nil (hK2 _ _ ?_)
  obtain rfl := Option.some.inj H
  refine T.rt (Cont.ret1 rfl rfl fun w' s => ?_)
  exact ⟨rfl, s.ext⟩
 ·intro hJ2
  refine RS.splitP 10 rfl (fun hc1 => ?_) (fun hc1 => ?_)
  ·refine RS.p (Pu.move rfl) rfl rfl ?_
   refine RS.p (Pu.move rfl) rfl rfl ?_
   refine RS.p (Pu.bin rfl rfl rfl) rfl rfl ?_
   refine RS.p (Pu.pickT rfl rfl) rfl rfl ?_
   exact hJ2 _ _ ⟨dAndT hc1, rfl, trivial⟩ (fun w s => s)
  ·refine RS.no rfl rfl ?_
   refine RS.no rfl rfl ?_
   refine RS.no rfl rfl ?_
   refine RS.p (Pu.pickF rfl rfl) rfl rfl ?_
   exact hJ2 _ _ ⟨dAndF hc1, rfl, trivial⟩ (fun w s => s)
theorem command_only_walk (a0_c : Cmd) (w : World) {v0 : Value} (B0 : Hp) (hB0 : B0.le (hpOf w)) (h0 : R B0 a0_c.units [v0]) {r : Cmd × Bool} (H : command_only a0_c = some r) : Calls Try.prog 76 #[.agg #[.int .i64 a0_c.player, .int .i64 a0_c.seq, .int .i64 a0_c.kind, .int .i64 a0_c.n, v0, .int .i64 a0_c.tile, .int .i64 a0_c.w, .int .i64 a0_c.h, .int .i64 a0_c.pos.x, .int .i64 a0_c.pos.y]] w fun e w' => ∃ u1 : Value, e = .returned (.tuple #[.agg #[.int .i64 r.1.player, .int .i64 r.1.seq, .int .i64 r.1.kind, .int .i64 r.1.n, u1, .int .i64 r.1.tile, .int .i64 r.1.w, .int .i64 r.1.h, .int .i64 r.1.pos.x, .int .i64 r.1.pos.y], .bool r.2]) ∧ Sat w [pc (R B0 (r.1.units : List Int) [u1])] w' := by
 have hm0 := R_max h0
 obtain ⟨p0, c0, rfl⟩ := R_form h0
 have hb0 := Enc.mono hB0 h0
 unfold command_only at H
 refine T.enter (args := [_]) (S := Sat w []) Try.func76 rfl rfl (Sat.start w) ?_
 refine T.seq fun K1 hK1 => ?_
 refine T.region ?_
 refine RS.solid (Sd.box (cs := [_, _, _, _, _, _, _, _, _, _]) rfl rfl) rfl rfl fun b1 => ?_
 refine RS.solid (Sd.alloc zr63 rfl) rfl rfl fun b2 => ?_
 refine RS.p (Pu.assign rfl) rfl rfl ?_
 refine RS.nil (hK1 _ _ ?_)
 refine T.seq fun K2 hK2 => ?_
 refine T.region ?_
 refine RS.p (Pu.fieldAddr fd63_0 rfl) rfl rfl ?_
 refine RS.q (Qt.ldB 0 ty3 rfl rfl rfl) rfl rfl ?_
 refine RS.p (Pu.fieldAddr fd63_1 rfl) rfl rfl ?_
 refine RS.q (Qt.ldB 0 ty3 rfl rfl rfl) rfl rfl ?_
 refine RS.p (Pu.fieldAddr fd63_2 rfl) rfl rfl ?_
 refine RS.q (Qt.ldB 0 ty3 rfl rfl rfl) rfl rfl ?_
 refine RS.p (Pu.build (cells := [_, _, _, _, _, _, _, _, _, _]) st63 rfl rfl) rfl rfl ?_
 refine RS.solid (Sd.stB (cs' := [_, _, _, _, _, _, _, _, _, _]) 1 ty63 rfl rfl rfl rfl rfl rfl rfl rfl) rfl rfl fun _ => ?_
 refine RS.nil (hK2 _ _ (T.conseq (fr' := [(1, _), (2, _), (3, _)]) ?_ ⟨rfl, rfl, rfl, trivial⟩ (fun _ s => s)))
 refine T.seq fun K3 hK3 => ?_
 refine T.seq fun K4 hK4 => ?_
 refine T.region ?_
 refine RS.p (Pu.fieldAddr fd63_2 rfl) rfl rfl ?_
 refine RS.q (Qt.ldB 0 ty3 rfl rfl rfl) rfl rfl ?_
 refine RS.nil (hK4 _ _ ?_)
 refine T.block ?_
 refine T.seq fun K5 hK5 => ?_
 refine T.region ?_
 refine RS.p (Pu.bin rfl rfl rfl) rfl rfl ?_
 refine RS.p (Pu.assign rfl) rfl rfl ?_
 refine RS.nil (hK5 _ _ ?_)
 refine T.condP rfl (fun hc3 => ?_) (fun hc3 => ?_)
 ·have H := ifT hc3 H
  refine T.conseq (fr' := [(1, _), (2, _)]) ?_ ⟨rfl, rfl, trivial⟩ (fun _ s => s)
  refine T.seq fun K6 hK6 => ?_
  refine T.drawnS [0] [(0, .pu), (1, .rd), (2, .pu), (3, .wk), (4, .pu), (5, .br), (6, .pu), (7, .br)] mixed (by kernel_rfl) rfl ?_
  refine RD.p (fun w s => s.pick [0] (by decide) rfl) rfl (Pu.fieldAddr fd63_3 rfl) rfl rfl ?_
  refine RD.q (fun w s => s.pick [0] (by decide) rfl) rfl (Qt.ldB 0 ty3 rfl rfl rfl) rfl rfl ?_
  refine RD.p (fun w s => s.pick [0] (by decide) rfl) rfl (Pu.fieldAddr fd63_8 rfl) rfl rfl ?_
  refine RD.w (fun w s => s.pick [0] (by decide) rfl) rfl (Qt.ldBA (us := [_, _]) 0 ty61 rfl rfl rfl rfl) rfl rfl ?_
  refine RD.p (fun w s => s.pick [0] (by decide) rfl) rfl (Pu.fieldAddr fd63_3 rfl) rfl rfl ?_
  refine RD.solid rfl (.inr rfl) rfl rfl (Sd.stB (cs' := [_, _, _, _, _, _, _, _, _, _]) 1 ty3 rfl rfl rfl rfl rfl rfl rfl rfl) (fun _ => ClE.sat _ _) (fun _ w s => s.pick [0] (by decide) rfl) (fun h => nomatch h) fun _ => ?_
  refine RD.p (fun w s => s.pick [0] (by decide) rfl) rfl (Pu.fieldAddr fd63_8 rfl) rfl rfl ?_
  refine RD.solid rfl (.inr rfl) rfl rfl (Sd.stB (cs' := [_, _, _, _, _, _, _, _, _, _]) 1 ty61 rfl rfl rfl rfl rfl rfl rfl rfl) (fun _ => ClE.sat _ _) (fun _ w s => s.pick [0] (by decide) rfl) (fun h => nomatch h) fun _ => ?_
  refine RD.nil (hK6 _ _ (T.conseq (fr' := [(1, _), (2, _)]) ?_ ⟨rfl, rfl, trivial⟩ (fun _ s => s)))
  refine T.region ?_
  refine RS.p (Pu.fieldAddr fd63_3 rfl) rfl rfl ?_
  refine RS.q (Qt.ldB 0 ty3 rfl rfl rfl) rfl rfl ?_
  obtain ⟨x4, hx4, H⟩ := bindE H
  refine RS.q (Qt.call (vs := [.int .i64 a0_c.n]) ent87 rfl fun w s => kind_May_walk a0_c.n w  hx4) rfl rfl ?_
  refine RS.p (Pu.move rfl) rfl rfl ?_
  refine RS.joinB H 4 28 (fun b7 => .bool b7) [(2, _)] ⟨rfl, trivial⟩ ?_ ?_
  ·intro b7 H
   refine RS.p (Pu.assign rfl) rfl rfl ?_
   refine RS.nil (hK3 _ _ ?_)
   refine T.seq fun K7 hK7 => ?_
   refine T.region ?_
   refine RS.q (Qt.ldBA (us := [_, _, _, _, _, _, _, _, _, _]) 1 ty63 rfl rfl rfl rfl) rfl rfl ?_
   refine RS.p (Pu.move rfl) rfl rfl ?_
   refine RS.solid (Sd.stB (cs' := [_, _, _, _, _, _, _, _, _, _]) 1 ty63 rfl rfl rfl rfl rfl rfl rfl rfl) rfl rfl fun _ => ?_
   refine RS.p (Pu.assign rfl) rfl rfl ?_
   refine RS.nil (hK7 _ _ (T.conseq (fr' := [(2, _), (3, _)]) ?_ ⟨rfl, rfl, trivial⟩ (fun _ s => s)))
   obtain rfl := Option.some.inj H
   refine T.rt (Cont.retCT 1 rfl ty63 rfl rfl rfl rfl fun w' s => ?_)
   exact ⟨.slice none 0 0, rfl, (s.addPc ⟨none, 0, rfl, by simp, by decide, .inl rfl⟩).pick [2] (by decide) rfl⟩
  ·intro z8 H hJ6
   refine RS.split 24 rfl (fun hc5 => ?_) (fun hc5 => ?_)
   ·have H := ifT hc5 H
    refine RS.p (Pu.fieldAddr fd63_8 rfl) rfl rfl ?_
    refine RS.q (Qt.ldBA (us := [_, _]) 0 ty61 rfl rfl rfl rfl) rfl rfl ?_
    obtain ⟨x9, hx9, H⟩ := bindE H
    refine RS.q (Qt.call (vs := [.agg #[.int .i64 a0_c.pos.x, .int .i64 a0_c.pos.y]]) ent88 rfl fun w s => disc_Place_walk a0_c.pos w  hx9) rfl rfl ?_
    refine RS.p (Pu.pickT rfl rfl) rfl rfl ?_
    obtain rfl := Option.some.inj H
    exact hJ6 _ _ ⟨rfl, rfl, trivial⟩ (fun w s => s)
   ·have H := ifB hc5 H
    refine RS.no rfl rfl ?_
    refine RS.no rfl rfl ?_
    refine RS.no rfl rfl ?_
    refine RS.p (Pu.pickF rfl rfl) rfl rfl ?_
    obtain rfl := Option.some.inj H
    exact hJ6 _ _ ⟨rfl, rfl, trivial⟩ (fun w s => s)
 ·have H := ifF hc3 H
  refine T.conseq (fr' := [(1, _), (2, _), (3, _), (12, _)]) ?_ ⟨rfl, rfl, rfl, rfl, trivial⟩ (fun _ s => s)
  refine T.seq fun K8 hK8 => ?_
  refine T.region ?_
  refine RS.p (Pu.bin rfl rfl rfl) rfl rfl ?_
  refine RS.p (Pu.assign rfl) rfl rfl ?_
  refine RS.nil (hK8 _ _ ?_)
  refine T.condP rfl (fun hc10 => ?_) (fun hc10 => ?_)
  ·have H := ifT hc10 H
   refine T.conseq (fr' := [(1, _), (2, _)]) ?_ ⟨rfl, rfl, trivial⟩ (fun _ s => s)
   refine T.seq fun K9 hK9 => ?_
   refine T.drawnS [0] [(0, .pu), (1, .rd), (2, .pu), (3, .wk), (4, .pu), (5, .br), (6, .pu), (7, .br)] mixed (by kernel_rfl) rfl ?_
   refine RD.p (fun w s => s.pick [0] (by decide) rfl) rfl (Pu.fieldAddr fd63_4 rfl) rfl rfl ?_
   refine RD.q (fun w s => s.pick [0] (by decide) rfl) rfl (Qt.ldB 0 ty23 rfl rfl rfl) rfl rfl ?_
   refine RD.p (fun w s => s.pick [0] (by decide) rfl) rfl (Pu.fieldAddr fd63_5 rfl) rfl rfl ?_
   refine RD.w (fun w s => s.pick [0] (by decide) rfl) rfl (Qt.ldB 0 ty3 rfl rfl rfl) rfl rfl ?_
   refine RD.p (fun w s => s.pick [0] (by decide) rfl) rfl (Pu.fieldAddr fd63_4 rfl) rfl rfl ?_
   refine RD.solid rfl (.inr rfl) rfl rfl (Sd.stB (cs' := [_, _, _, _, _, _, _, _, _, _]) 1 ty23 rfl rfl rfl rfl rfl rfl rfl rfl) (fun _ => ClE.sat _ _) (fun _ w s => s.pick [0] (by decide) rfl) (fun h => nomatch h) fun _ => ?_
   refine RD.p (fun w s => s.pick [0] (by decide) rfl) rfl (Pu.fieldAddr fd63_5 rfl) rfl rfl ?_
   refine RD.solid rfl (.inr rfl) rfl rfl (Sd.stB (cs' := [_, _, _, _, _, _, _, _, _, _]) 1 ty3 rfl rfl rfl rfl rfl rfl rfl rfl) (fun _ => ClE.sat _ _) (fun _ w s => s.pick [0] (by decide) rfl) (fun h => nomatch h) fun _ => ?_
   refine RD.nil (hK9 _ _ (T.conseq (fr' := [(1, _), (2, _)]) ?_ ⟨rfl, rfl, trivial⟩ (fun _ s => s)))
   refine T.region ?_
   refine RS.p (Pu.fieldAddr fd63_4 rfl) rfl rfl ?_
   refine RS.q (Qt.ldB 0 ty23 rfl rfl rfl) rfl rfl ?_
   obtain ⟨x11, hx11, H⟩ := bindE H
   refine RS.q (Qt.call (vs := [.slice p0 a0_c.units.length c0]) ent89 rfl fun w s => command_units_walk a0_c.units w ((Rd.base hb0) w s) hx11) rfl rfl ?_
   refine RS.p (Pu.move rfl) rfl rfl ?_
   refine RS.joinB H 4 44 (fun b14 => .bool b14) [(2, _)] ⟨rfl, trivial⟩ ?_ ?_
   ·intro b14 H
    refine RS.p (Pu.assign rfl) rfl rfl ?_
    refine RS.nil (hK3 _ _ ?_)
    refine T.seq fun K10 hK10 => ?_
    refine T.region ?_
    refine RS.q (Qt.ldBA (us := [_, _, _, _, _, _, _, _, _, _]) 1 ty63 rfl rfl rfl rfl) rfl rfl ?_
    refine RS.p (Pu.move rfl) rfl rfl ?_
    refine RS.solid (Sd.stB (cs' := [_, _, _, _, _, _, _, _, _, _]) 1 ty63 rfl rfl rfl rfl rfl rfl rfl rfl) rfl rfl fun _ => ?_
    refine RS.p (Pu.assign rfl) rfl rfl ?_
    refine RS.nil (hK10 _ _ (T.conseq (fr' := [(2, _), (3, _)]) ?_ ⟨rfl, rfl, trivial⟩ (fun _ s => s)))
    obtain rfl := Option.some.inj H
    refine T.rt (Cont.retCT 1 rfl ty63 rfl rfl rfl rfl fun w' s => ?_)
    exact ⟨.slice p0 a0_c.units.length c0, rfl, (s.addPc h0).pick [2] (by decide) rfl⟩
   ·intro z15 H hJ13
    refine RS.split 40 rfl (fun hc12 => ?_) (fun hc12 => ?_)
    ·have H := ifT hc12 H
     refine RS.p (Pu.fieldAddr fd63_5 rfl) rfl rfl ?_
     refine RS.q (Qt.ldB 0 ty3 rfl rfl rfl) rfl rfl ?_
     obtain ⟨x16, hx16, H⟩ := bindE H
     refine RS.q (Qt.call (vs := [.int .i64 a0_c.tile, .int .i64 0, .int .i64 16383]) ent77 rfl fun w s => command_within_walk a0_c.tile 0 16383 w  hx16) rfl rfl ?_
     refine RS.p (Pu.pickT rfl rfl) rfl rfl ?_
     obtain rfl := Option.some.inj H
     exact hJ13 _ _ ⟨rfl, rfl, trivial⟩ (fun w s => s)
    ·have H := ifB hc12 H
     refine RS.no rfl rfl ?_
     refine RS.no rfl rfl ?_
     refine RS.no rfl rfl ?_
     refine RS.p (Pu.pickF rfl rfl) rfl rfl ?_
     obtain rfl := Option.some.inj H
     exact hJ13 _ _ ⟨rfl, rfl, trivial⟩ (fun w s => s)
  ·have H := ifF hc10 H
   refine T.seq fun K11 hK11 => ?_
   refine T.region ?_
   refine RS.p (Pu.bin rfl rfl rfl) rfl rfl ?_
   refine RS.p (Pu.assign rfl) rfl rfl ?_
   refine RS.nil (hK11 _ _ ?_)
   refine T.condP rfl (fun hc17 => ?_) (fun hc17 => ?_)
   ·have H := ifT hc17 H
    refine T.conseq (fr' := [(1, _), (2, _)]) ?_ ⟨rfl, rfl, trivial⟩ (fun _ s => s)
    refine T.seq fun K12 hK12 => ?_
    refine T.region ?_
    refine RS.p (Pu.fieldAddr fd63_4 rfl) rfl rfl ?_
    refine RS.q (Qt.ldB 0 ty23 rfl rfl rfl) rfl rfl ?_
    refine RS.p (Pu.fieldAddr fd63_4 rfl) rfl rfl ?_
    refine RS.solid (Sd.stB (cs' := [_, _, _, _, _, _, _, _, _, _]) 1 ty23 rfl rfl rfl rfl rfl rfl rfl rfl) rfl rfl fun _ => ?_
    refine RS.nil (hK12 _ _ (T.conseq (fr' := [(1, _), (2, _)]) ?_ ⟨rfl, rfl, trivial⟩ (fun _ s => s)))
    refine T.region ?_
    refine RS.p (Pu.fieldAddr fd63_4 rfl) rfl rfl ?_
    refine RS.q (Qt.ldB 0 ty23 rfl rfl rfl) rfl rfl ?_
    obtain ⟨x18, hx18, H⟩ := bindE H
    refine RS.q (Qt.call (vs := [.slice p0 a0_c.units.length c0]) ent89 rfl fun w s => command_units_walk a0_c.units w ((Rd.base hb0) w s) hx18) rfl rfl ?_
    refine RS.p (Pu.assign rfl) rfl rfl ?_
    refine RS.nil (hK3 _ _ (T.conseq (fr' := [(2, _), (3, _)]) ?_ ⟨rfl, rfl, trivial⟩ (fun _ s => s)))
    refine T.seq fun K13 hK13 => ?_
    refine T.region ?_
    refine RS.q (Qt.ldBA (us := [_, _, _, _, _, _, _, _, _, _]) 1 ty63 rfl rfl rfl rfl) rfl rfl ?_
    refine RS.p (Pu.move rfl) rfl rfl ?_
    refine RS.solid (Sd.stB (cs' := [_, _, _, _, _, _, _, _, _, _]) 1 ty63 rfl rfl rfl rfl rfl rfl rfl rfl) rfl rfl fun _ => ?_
    refine RS.p (Pu.assign rfl) rfl rfl ?_
    refine RS.nil (hK13 _ _ ?_)
    obtain rfl := Option.some.inj H
    refine T.rt (Cont.retCT 1 rfl ty63 rfl rfl rfl rfl fun w' s => ?_)
    exact ⟨.slice p0 a0_c.units.length c0, rfl, (s.addPc h0).pick [2] (by decide) rfl⟩
   ·have H := ifF hc17 H
    refine T.conseq (fr' := [(1, _), (2, _), (3, _), (12, _)]) ?_ ⟨rfl, rfl, rfl, rfl, trivial⟩ (fun _ s => s)
    refine T.seq fun K14 hK14 => ?_
    refine T.region ?_
    refine RS.p (Pu.bin rfl rfl rfl) rfl rfl ?_
    refine RS.p (Pu.assign rfl) rfl rfl ?_
    refine RS.nil (hK14 _ _ ?_)
    refine T.condP rfl (fun hc19 => ?_) (fun hc19 => ?_)
    ·have H := ifT hc19 H
     refine T.conseq (fr' := [(1, _), (2, _)]) ?_ ⟨rfl, rfl, trivial⟩ (fun _ s => s)
     refine T.seq fun K15 hK15 => ?_
     refine T.drawnS [0] [(0, .pu), (1, .rd), (2, .pu), (3, .wk), (4, .pu), (5, .wk), (6, .pu), (7, .br), (8, .pu), (9, .br), (10, .pu), (11, .br)] mixed (by kernel_rfl) rfl ?_
     refine RD.p (fun w s => s.pick [0] (by decide) rfl) rfl (Pu.fieldAddr fd63_5 rfl) rfl rfl ?_
     refine RD.q (fun w s => s.pick [0] (by decide) rfl) rfl (Qt.ldB 0 ty3 rfl rfl rfl) rfl rfl ?_
     refine RD.p (fun w s => s.pick [0] (by decide) rfl) rfl (Pu.fieldAddr fd63_6 rfl) rfl rfl ?_
     refine RD.w (fun w s => s.pick [0] (by decide) rfl) rfl (Qt.ldB 0 ty3 rfl rfl rfl) rfl rfl ?_
     refine RD.p (fun w s => s.pick [0] (by decide) rfl) rfl (Pu.fieldAddr fd63_7 rfl) rfl rfl ?_
     refine RD.w (fun w s => s.pick [0] (by decide) rfl) rfl (Qt.ldB 0 ty3 rfl rfl rfl) rfl rfl ?_
     refine RD.p (fun w s => s.pick [0] (by decide) rfl) rfl (Pu.fieldAddr fd63_5 rfl) rfl rfl ?_
     refine RD.solid rfl (.inr rfl) rfl rfl (Sd.stB (cs' := [_, _, _, _, _, _, _, _, _, _]) 1 ty3 rfl rfl rfl rfl rfl rfl rfl rfl) (fun _ => ClE.sat _ _) (fun _ w s => s.pick [0] (by decide) rfl) (fun h => nomatch h) fun _ => ?_
     refine RD.p (fun w s => s.pick [0] (by decide) rfl) rfl (Pu.fieldAddr fd63_6 rfl) rfl rfl ?_
     refine RD.solid rfl (.inr rfl) rfl rfl (Sd.stB (cs' := [_, _, _, _, _, _, _, _, _, _]) 1 ty3 rfl rfl rfl rfl rfl rfl rfl rfl) (fun _ => ClE.sat _ _) (fun _ w s => s.pick [0] (by decide) rfl) (fun h => nomatch h) fun _ => ?_
     refine RD.p (fun w s => s.pick [0] (by decide) rfl) rfl (Pu.fieldAddr fd63_7 rfl) rfl rfl ?_
     refine RD.solid rfl (.inr rfl) rfl rfl (Sd.stB (cs' := [_, _, _, _, _, _, _, _, _, _]) 1 ty3 rfl rfl rfl rfl rfl rfl rfl rfl) (fun _ => ClE.sat _ _) (fun _ w s => s.pick [0] (by decide) rfl) (fun h => nomatch h) fun _ => ?_
     refine RD.nil (hK15 _ _ (T.conseq (fr' := [(1, _), (2, _)]) ?_ ⟨rfl, rfl, trivial⟩ (fun _ s => s)))
     refine T.region ?_
     refine RS.p (Pu.fieldAddr fd63_5 rfl) rfl rfl ?_
     refine RS.q (Qt.ldB 0 ty3 rfl rfl rfl) rfl rfl ?_
     obtain ⟨x20, hx20, H⟩ := bindE H
     refine RS.q (Qt.call (vs := [.int .i64 a0_c.tile, .int .i64 0, .int .i64 16383]) ent77 rfl fun w s => command_within_walk a0_c.tile 0 16383 w  hx20) rfl rfl ?_
     refine RS.p (Pu.move rfl) rfl rfl ?_
     refine RS.joinB H 4 71 (fun b23 => .bool b23) [(1, _), (2, _)] ⟨rfl, rfl, trivial⟩ ?_ ?_
     ·intro b23 H
      refine RS.p (Pu.move rfl) rfl rfl ?_
      refine RS.joinB H 4 76 (fun b26 => .bool b26) [(2, _)] ⟨rfl, trivial⟩ ?_ ?_
      ·intro b26 H
       refine RS.p (Pu.assign rfl) rfl rfl ?_
       refine RS.nil (hK3 _ _ ?_)
       refine T.seq fun K16 hK16 => ?_
       refine T.region ?_
       refine RS.q (Qt.ldBA (us := [_, _, _, _, _, _, _, _, _, _]) 1 ty63 rfl rfl rfl rfl) rfl rfl ?_
       refine RS.p (Pu.move rfl) rfl rfl ?_
       refine RS.solid (Sd.stB (cs' := [_, _, _, _, _, _, _, _, _, _]) 1 ty63 rfl rfl rfl rfl rfl rfl rfl rfl) rfl rfl fun _ => ?_
       refine RS.p (Pu.assign rfl) rfl rfl ?_
       refine RS.nil (hK16 _ _ (T.conseq (fr' := [(2, _), (3, _)]) ?_ ⟨rfl, rfl, trivial⟩ (fun _ s => s)))
       obtain rfl := Option.some.inj H
       refine T.rt (Cont.retCT 1 rfl ty63 rfl rfl rfl rfl fun w' s => ?_)
       exact ⟨.slice none 0 0, rfl, (s.addPc ⟨none, 0, rfl, by simp, by decide, .inl rfl⟩).pick [2] (by decide) rfl⟩
      ·intro z27 H hJ25
       refine RS.split 72 rfl (fun hc24 => ?_) (fun hc24 => ?_)
       ·have H := ifT hc24 H
        refine RS.p (Pu.fieldAddr fd63_7 rfl) rfl rfl ?_
        refine RS.q (Qt.ldB 0 ty3 rfl rfl rfl) rfl rfl ?_
        obtain ⟨x28, hx28, H⟩ := bindE H
        refine RS.q (Qt.call (vs := [.int .i64 a0_c.h, .int .i64 1, .int .i64 4]) ent77 rfl fun w s => command_within_walk a0_c.h 1 4 w  hx28) rfl rfl ?_
        refine RS.p (Pu.pickT rfl rfl) rfl rfl ?_
        obtain rfl := Option.some.inj H
        exact hJ25 _ _ ⟨rfl, rfl, trivial⟩ (fun w s => s)
       ·have H := ifB hc24 H
        refine RS.no rfl rfl ?_
        refine RS.no rfl rfl ?_
        refine RS.no rfl rfl ?_
        refine RS.p (Pu.pickF rfl rfl) rfl rfl ?_
        obtain rfl := Option.some.inj H
        exact hJ25 _ _ ⟨rfl, rfl, trivial⟩ (fun w s => s)
     ·intro z29 H hJ22
      refine RS.split 67 rfl (fun hc21 => ?_) (fun hc21 => ?_)
      ·have H := ifT hc21 H
       refine RS.p (Pu.fieldAddr fd63_6 rfl) rfl rfl ?_
       refine RS.q (Qt.ldB 0 ty3 rfl rfl rfl) rfl rfl ?_
       obtain ⟨x30, hx30, H⟩ := bindE H
       refine RS.q (Qt.call (vs := [.int .i64 a0_c.w, .int .i64 1, .int .i64 4]) ent77 rfl fun w s => command_within_walk a0_c.w 1 4 w  hx30) rfl rfl ?_
       refine RS.p (Pu.pickT rfl rfl) rfl rfl ?_
       obtain rfl := Option.some.inj H
       exact hJ22 _ _ ⟨rfl, rfl, rfl, trivial⟩ (fun w s => s)
      ·have H := ifB hc21 H
       refine RS.no rfl rfl ?_
       refine RS.no rfl rfl ?_
       refine RS.no rfl rfl ?_
       refine RS.p (Pu.pickF rfl rfl) rfl rfl ?_
       obtain rfl := Option.some.inj H
       exact hJ22 _ _ ⟨rfl, rfl, rfl, trivial⟩ (fun w s => s)
    ·have H := ifF hc19 H
     refine T.seq fun K17 hK17 => ?_
     refine T.region ?_
     refine RS.p (Pu.bin rfl rfl rfl) rfl rfl ?_
     refine RS.p (Pu.assign rfl) rfl rfl ?_
     refine RS.nil (hK17 _ _ ?_)
     refine T.condP rfl (fun hc31 => ?_) (fun hc31 => ?_)
     ·have H := ifT hc31 H
      refine T.conseq (fr' := [(1, _), (2, _)]) ?_ ⟨rfl, rfl, trivial⟩ (fun _ s => s)
      refine T.seq fun K18 hK18 => ?_
      refine T.region ?_
      refine RS.p (Pu.fieldAddr fd63_3 rfl) rfl rfl ?_
      refine RS.q (Qt.ldB 0 ty3 rfl rfl rfl) rfl rfl ?_
      refine RS.p (Pu.fieldAddr fd63_3 rfl) rfl rfl ?_
      refine RS.solid (Sd.stB (cs' := [_, _, _, _, _, _, _, _, _, _]) 1 ty3 rfl rfl rfl rfl rfl rfl rfl rfl) rfl rfl fun _ => ?_
      refine RS.nil (hK18 _ _ (T.conseq (fr' := [(1, _), (2, _)]) ?_ ⟨rfl, rfl, trivial⟩ (fun _ s => s)))
      refine T.region ?_
      refine RS.p (Pu.fieldAddr fd63_3 rfl) rfl rfl ?_
      refine RS.q (Qt.ldB 0 ty3 rfl rfl rfl) rfl rfl ?_
      obtain ⟨x32, hx32, H⟩ := bindE H
      refine RS.q (Qt.call (vs := [.int .i64 a0_c.n, .int .i64 1, .int .i64 1099511627776]) ent77 rfl fun w s => command_within_walk a0_c.n 1 1099511627776 w  hx32) rfl rfl ?_
      refine RS.p (Pu.assign rfl) rfl rfl ?_
      refine RS.nil (hK3 _ _ (T.conseq (fr' := [(2, _), (3, _)]) ?_ ⟨rfl, rfl, trivial⟩ (fun _ s => s)))
      refine T.seq fun K19 hK19 => ?_
      refine T.region ?_
      refine RS.q (Qt.ldBA (us := [_, _, _, _, _, _, _, _, _, _]) 1 ty63 rfl rfl rfl rfl) rfl rfl ?_
      refine RS.p (Pu.move rfl) rfl rfl ?_
      refine RS.solid (Sd.stB (cs' := [_, _, _, _, _, _, _, _, _, _]) 1 ty63 rfl rfl rfl rfl rfl rfl rfl rfl) rfl rfl fun _ => ?_
      refine RS.p (Pu.assign rfl) rfl rfl ?_
      refine RS.nil (hK19 _ _ ?_)
      obtain rfl := Option.some.inj H
      refine T.rt (Cont.retCT 1 rfl ty63 rfl rfl rfl rfl fun w' s => ?_)
      exact ⟨.slice none 0 0, rfl, (s.addPc ⟨none, 0, rfl, by simp, by decide, .inl rfl⟩).pick [2] (by decide) rfl⟩
     ·have H := ifF hc31 H
      refine T.conseq (fr' := [(1, _), (2, _), (3, _), (12, _)]) ?_ ⟨rfl, rfl, rfl, rfl, trivial⟩ (fun _ s => s)
      refine T.seq fun K20 hK20 => ?_
      refine T.region ?_
      refine RS.p (Pu.bin rfl rfl rfl) rfl rfl ?_
      refine RS.p (Pu.assign rfl) rfl rfl ?_
      refine RS.nil (hK20 _ _ ?_)
      refine T.condP rfl (fun hc33 => ?_) (fun hc33 => ?_)
      ·have H := ifT hc33 H
       refine T.conseq (fr' := [(1, _), (2, _)]) ?_ ⟨rfl, rfl, trivial⟩ (fun _ s => s)
       refine T.seq fun K21 hK21 => ?_
       refine T.drawnS [0] [(0, .pu), (1, .rd), (2, .pu), (3, .wk), (4, .pu), (5, .br), (6, .pu), (7, .br)] mixed (by kernel_rfl) rfl ?_
       refine RD.p (fun w s => s.pick [0] (by decide) rfl) rfl (Pu.fieldAddr fd63_4 rfl) rfl rfl ?_
       refine RD.q (fun w s => s.pick [0] (by decide) rfl) rfl (Qt.ldB 0 ty23 rfl rfl rfl) rfl rfl ?_
       refine RD.p (fun w s => s.pick [0] (by decide) rfl) rfl (Pu.fieldAddr fd63_3 rfl) rfl rfl ?_
       refine RD.w (fun w s => s.pick [0] (by decide) rfl) rfl (Qt.ldB 0 ty3 rfl rfl rfl) rfl rfl ?_
       refine RD.p (fun w s => s.pick [0] (by decide) rfl) rfl (Pu.fieldAddr fd63_4 rfl) rfl rfl ?_
       refine RD.solid rfl (.inr rfl) rfl rfl (Sd.stB (cs' := [_, _, _, _, _, _, _, _, _, _]) 1 ty23 rfl rfl rfl rfl rfl rfl rfl rfl) (fun _ => ClE.sat _ _) (fun _ w s => s.pick [0] (by decide) rfl) (fun h => nomatch h) fun _ => ?_
       refine RD.p (fun w s => s.pick [0] (by decide) rfl) rfl (Pu.fieldAddr fd63_3 rfl) rfl rfl ?_
       refine RD.solid rfl (.inr rfl) rfl rfl (Sd.stB (cs' := [_, _, _, _, _, _, _, _, _, _]) 1 ty3 rfl rfl rfl rfl rfl rfl rfl rfl) (fun _ => ClE.sat _ _) (fun _ w s => s.pick [0] (by decide) rfl) (fun h => nomatch h) fun _ => ?_
       refine RD.nil (hK21 _ _ (T.conseq (fr' := [(1, _), (2, _)]) ?_ ⟨rfl, rfl, trivial⟩ (fun _ s => s)))
       refine T.region ?_
       refine RS.p (Pu.fieldAddr fd63_4 rfl) rfl rfl ?_
       refine RS.q (Qt.ldB 0 ty23 rfl rfl rfl) rfl rfl ?_
       obtain ⟨x34, hx34, H⟩ := bindE H
       refine RS.q (Qt.call (vs := [.slice p0 a0_c.units.length c0]) ent89 rfl fun w s => command_units_walk a0_c.units w ((Rd.base hb0) w s) hx34) rfl rfl ?_
       refine RS.p (Pu.move rfl) rfl rfl ?_
       refine RS.joinB H 4 100 (fun b37 => .bool b37) [(2, _)] ⟨rfl, trivial⟩ ?_ ?_
       ·intro b37 H
        refine RS.p (Pu.assign rfl) rfl rfl ?_
        refine RS.nil (hK3 _ _ ?_)
        refine T.seq fun K22 hK22 => ?_
        refine T.region ?_
        refine RS.q (Qt.ldBA (us := [_, _, _, _, _, _, _, _, _, _]) 1 ty63 rfl rfl rfl rfl) rfl rfl ?_
        refine RS.p (Pu.move rfl) rfl rfl ?_
        refine RS.solid (Sd.stB (cs' := [_, _, _, _, _, _, _, _, _, _]) 1 ty63 rfl rfl rfl rfl rfl rfl rfl rfl) rfl rfl fun _ => ?_
        refine RS.p (Pu.assign rfl) rfl rfl ?_
        refine RS.nil (hK22 _ _ (T.conseq (fr' := [(2, _), (3, _)]) ?_ ⟨rfl, rfl, trivial⟩ (fun _ s => s)))
        obtain rfl := Option.some.inj H
        refine T.rt (Cont.retCT 1 rfl ty63 rfl rfl rfl rfl fun w' s => ?_)
        exact ⟨.slice p0 a0_c.units.length c0, rfl, (s.addPc h0).pick [2] (by decide) rfl⟩
       ·intro z38 H hJ36
        refine RS.split 96 rfl (fun hc35 => ?_) (fun hc35 => ?_)
        ·have H := ifT hc35 H
         refine RS.p (Pu.fieldAddr fd63_3 rfl) rfl rfl ?_
         refine RS.q (Qt.ldB 0 ty3 rfl rfl rfl) rfl rfl ?_
         obtain ⟨x39, hx39, H⟩ := bindE H
         refine RS.q (Qt.call (vs := [.int .i64 a0_c.n, .int .i64 1, .int .i64 1099511627776]) ent77 rfl fun w s => command_within_walk a0_c.n 1 1099511627776 w  hx39) rfl rfl ?_
         refine RS.p (Pu.pickT rfl rfl) rfl rfl ?_
         obtain rfl := Option.some.inj H
         exact hJ36 _ _ ⟨rfl, rfl, trivial⟩ (fun w s => s)
        ·have H := ifB hc35 H
         refine RS.no rfl rfl ?_
         refine RS.no rfl rfl ?_
         refine RS.no rfl rfl ?_
         refine RS.p (Pu.pickF rfl rfl) rfl rfl ?_
         obtain rfl := Option.some.inj H
         exact hJ36 _ _ ⟨rfl, rfl, trivial⟩ (fun w s => s)
      ·have H := ifF hc33 H
       refine T.seq fun K23 hK23 => ?_
       refine T.region ?_
       refine RS.p (Pu.bin rfl rfl rfl) rfl rfl ?_
       refine RS.p (Pu.assign rfl) rfl rfl ?_
       refine RS.nil (hK23 _ _ ?_)
       refine T.condP rfl (fun hc40 => ?_) (fun hc40 => ?_)
       ·have H := ifT hc40 H
        refine T.conseq (fr' := [(1, _), (2, _)]) ?_ ⟨rfl, rfl, trivial⟩ (fun _ s => s)
        refine T.seq fun K24 hK24 => ?_
        refine T.drawnS [0] [(0, .pu), (1, .rd), (2, .pu), (3, .wk), (4, .pu), (5, .br), (6, .pu), (7, .br)] mixed (by kernel_rfl) rfl ?_
        refine RD.p (fun w s => s.pick [0] (by decide) rfl) rfl (Pu.fieldAddr fd63_3 rfl) rfl rfl ?_
        refine RD.q (fun w s => s.pick [0] (by decide) rfl) rfl (Qt.ldB 0 ty3 rfl rfl rfl) rfl rfl ?_
        refine RD.p (fun w s => s.pick [0] (by decide) rfl) rfl (Pu.fieldAddr fd63_5 rfl) rfl rfl ?_
        refine RD.w (fun w s => s.pick [0] (by decide) rfl) rfl (Qt.ldB 0 ty3 rfl rfl rfl) rfl rfl ?_
        refine RD.p (fun w s => s.pick [0] (by decide) rfl) rfl (Pu.fieldAddr fd63_3 rfl) rfl rfl ?_
        refine RD.solid rfl (.inr rfl) rfl rfl (Sd.stB (cs' := [_, _, _, _, _, _, _, _, _, _]) 1 ty3 rfl rfl rfl rfl rfl rfl rfl rfl) (fun _ => ClE.sat _ _) (fun _ w s => s.pick [0] (by decide) rfl) (fun h => nomatch h) fun _ => ?_
        refine RD.p (fun w s => s.pick [0] (by decide) rfl) rfl (Pu.fieldAddr fd63_5 rfl) rfl rfl ?_
        refine RD.solid rfl (.inr rfl) rfl rfl (Sd.stB (cs' := [_, _, _, _, _, _, _, _, _, _]) 1 ty3 rfl rfl rfl rfl rfl rfl rfl rfl) (fun _ => ClE.sat _ _) (fun _ w s => s.pick [0] (by decide) rfl) (fun h => nomatch h) fun _ => ?_
        refine RD.nil (hK24 _ _ (T.conseq (fr' := [(1, _), (2, _)]) ?_ ⟨rfl, rfl, trivial⟩ (fun _ s => s)))
        refine T.region ?_
        refine RS.p (Pu.fieldAddr fd63_3 rfl) rfl rfl ?_
        refine RS.q (Qt.ldB 0 ty3 rfl rfl rfl) rfl rfl ?_
        obtain ⟨x41, hx41, H⟩ := bindE H
        refine RS.q (Qt.call (vs := [.int .i64 a0_c.n, .int .i64 1, .int .i64 1099511627776]) ent77 rfl fun w s => command_within_walk a0_c.n 1 1099511627776 w  hx41) rfl rfl ?_
        refine RS.p (Pu.move rfl) rfl rfl ?_
        refine RS.joinB H 4 116 (fun b44 => .bool b44) [(2, _)] ⟨rfl, trivial⟩ ?_ ?_
        ·intro b44 H
         refine RS.p (Pu.assign rfl) rfl rfl ?_
         refine RS.nil (hK3 _ _ ?_)
         refine T.seq fun K25 hK25 => ?_
         refine T.region ?_
         refine RS.q (Qt.ldBA (us := [_, _, _, _, _, _, _, _, _, _]) 1 ty63 rfl rfl rfl rfl) rfl rfl ?_
         refine RS.p (Pu.move rfl) rfl rfl ?_
         refine RS.solid (Sd.stB (cs' := [_, _, _, _, _, _, _, _, _, _]) 1 ty63 rfl rfl rfl rfl rfl rfl rfl rfl) rfl rfl fun _ => ?_
         refine RS.p (Pu.assign rfl) rfl rfl ?_
         refine RS.nil (hK25 _ _ (T.conseq (fr' := [(2, _), (3, _)]) ?_ ⟨rfl, rfl, trivial⟩ (fun _ s => s)))
         obtain rfl := Option.some.inj H
         refine T.rt (Cont.retCT 1 rfl ty63 rfl rfl rfl rfl fun w' s => ?_)
         exact ⟨.slice none 0 0, rfl, (s.addPc ⟨none, 0, rfl, by simp, by decide, .inl rfl⟩).pick [2] (by decide) rfl⟩
        ·intro z45 H hJ43
         refine RS.split 112 rfl (fun hc42 => ?_) (fun hc42 => ?_)
         ·have H := ifT hc42 H
          refine RS.p (Pu.fieldAddr fd63_5 rfl) rfl rfl ?_
          refine RS.q (Qt.ldB 0 ty3 rfl rfl rfl) rfl rfl ?_
          obtain ⟨x46, hx46, H⟩ := bindE H
          refine RS.q (Qt.call (vs := [.int .i64 a0_c.tile, .int .i64 0, .int .i64 16383]) ent77 rfl fun w s => command_within_walk a0_c.tile 0 16383 w  hx46) rfl rfl ?_
          refine RS.p (Pu.pickT rfl rfl) rfl rfl ?_
          obtain rfl := Option.some.inj H
          exact hJ43 _ _ ⟨rfl, rfl, trivial⟩ (fun w s => s)
         ·have H := ifB hc42 H
          refine RS.no rfl rfl ?_
          refine RS.no rfl rfl ?_
          refine RS.no rfl rfl ?_
          refine RS.p (Pu.pickF rfl rfl) rfl rfl ?_
          obtain rfl := Option.some.inj H
          exact hJ43 _ _ ⟨rfl, rfl, trivial⟩ (fun w s => s)
       ·have H := ifF hc40 H
        refine T.skip (hK3 _ _ (T.conseq (fr' := [(2, _), (3, _)]) ?_ ⟨rfl, rfl, trivial⟩ (fun _ s => s)))
        refine T.seq fun K26 hK26 => ?_
        refine T.region ?_
        refine RS.q (Qt.ldBA (us := [_, _, _, _, _, _, _, _, _, _]) 1 ty63 rfl rfl rfl rfl) rfl rfl ?_
        refine RS.p (Pu.move rfl) rfl rfl ?_
        refine RS.solid (Sd.stB (cs' := [_, _, _, _, _, _, _, _, _, _]) 1 ty63 rfl rfl rfl rfl rfl rfl rfl rfl) rfl rfl fun _ => ?_
        refine RS.p (Pu.assign rfl) rfl rfl ?_
        refine RS.nil (hK26 _ _ ?_)
        obtain rfl := Option.some.inj H
        refine T.rt (Cont.retCT 1 rfl ty63 rfl rfl rfl rfl fun w' s => ?_)
        exact ⟨.slice none 0 0, rfl, (s.addPc ⟨none, 0, rfl, by simp, by decide, .inl rfl⟩).pick [2] (by decide) rfl⟩
theorem command_May_walk (a0_c : Cmd) (w : World) {v0 : Value} (h0 : R (hpOf w) a0_c.units [v0]) {r : Bool} (H : command_May a0_c = some r) : Calls Try.prog 67 #[.agg #[.int .i64 a0_c.player, .int .i64 a0_c.seq, .int .i64 a0_c.kind, .int .i64 a0_c.n, v0, .int .i64 a0_c.tile, .int .i64 a0_c.w, .int .i64 a0_c.h, .int .i64 a0_c.pos.x, .int .i64 a0_c.pos.y]] w fun e w' => e = .returned (.bool r) ∧ Ext w w' := by
 have hm0 := R_max h0
 obtain ⟨p0, c0, rfl⟩ := R_form h0
 unfold command_May at H
 refine T.enter (args := [_]) (S := Sat w []) Try.func67 rfl rfl (Sat.start w) ?_
 refine T.seq fun K1 hK1 => ?_
 refine T.region ?_
 refine RS.solid (Sd.box (cs := [_, _, _, _, _, _, _, _, _, _]) rfl rfl) rfl rfl fun b1 => ?_
 refine RS.p (Pu.assign rfl) rfl rfl ?_
 refine RS.nil (hK1 _ _ ?_)
 refine T.seq fun K2 hK2 => ?_
 refine T.region ?_
 refine RS.q (Qt.ldBA (us := [_, _, _, _, _, _, _, _, _, _]) 0 ty63 rfl rfl rfl rfl) rfl rfl ?_
 obtain ⟨x2, hx2, H⟩ := bindE H
 refine RS.solid (Sd.callN (vs := [.agg #[.int .i64 a0_c.player, .int .i64 a0_c.seq, .int .i64 a0_c.kind, .int .i64 a0_c.n, .slice p0 a0_c.units.length c0, .int .i64 a0_c.tile, .int .i64 a0_c.w, .int .i64 a0_c.h, .int .i64 a0_c.pos.x, .int .i64 a0_c.pos.y]]) ent76 rfl (fun w s => command_only_walk a0_c w (_) (s.ext.hp) (h0) hx2)) rfl rfl fun u3 => ?_
 refine RS.know (fun w s => s.getPc 1 rfl) fun hu4 => ?_
 obtain ⟨p5, cc6, rfl⟩ := R_form hu4
 refine RS.p (Pu.move rfl) rfl rfl ?_
 refine RS.p (Pu.extract rfl rfl) rfl rfl ?_
 refine RS.p (Pu.extract rfl rfl) rfl rfl ?_
 refine RS.solid (Sd.alloc zr63 rfl) rfl rfl fun b7 => ?_
 refine RS.solid (Sd.stB (cs' := [_, _, _, _, _, _, _, _, _, _]) 2 ty63 rfl rfl rfl rfl rfl rfl rfl rfl) rfl rfl fun _ => ?_
 refine RS.p (Pu.assign rfl) rfl rfl ?_
 refine RS.nil (hK2 _ _ (T.conseq (fr' := [(1, _), (3, _), (4, _)]) ?_ ⟨rfl, rfl, rfl, trivial⟩ (fun _ s => s)))
 refine T.seq fun K3 hK3 => ?_
 refine T.region ?_
 refine RS.p (Pu.move rfl) rfl rfl ?_
 refine RS.p (Pu.move rfl) rfl rfl ?_
 refine RS.joinB H 4 15 (fun b10 => .bool b10) [(1, _), (3, _)] ⟨rfl, rfl, trivial⟩ ?_ ?_
 ·intro b10 H
  refine RS.p (Pu.move rfl) rfl rfl ?_
  refine RS.joinB H 4 20 (fun b13 => .bool b13) [(1, _), (3, _)] ⟨rfl, rfl, trivial⟩ ?_ ?_
  ·intro b13 H
   refine RS.p (Pu.move rfl) rfl rfl ?_
   refine RS.joinV 6 27 (.bool (decide ((b13 = true) ∧ (x2.1.n = a0_c.n)))) [(1, _), (3, _)] ⟨rfl, rfl, trivial⟩ ?_ ?_
   ·refine RS.p (Pu.move rfl) rfl rfl ?_
    refine RS.joinV 6 34 (.bool (decide (((b13 = true) ∧ (x2.1.n = a0_c.n)) ∧ (x2.1.pos = a0_c.pos)))) [(1, _), (3, _)] ⟨rfl, rfl, trivial⟩ ?_ ?_
    ·refine RS.p (Pu.move rfl) rfl rfl ?_
     refine RS.joinV 6 41 (.bool (decide ((((b13 = true) ∧ (x2.1.n = a0_c.n)) ∧ (x2.1.pos = a0_c.pos)) ∧ (x2.1.tile = a0_c.tile)))) [(1, _), (3, _)] ⟨rfl, rfl, trivial⟩ ?_ ?_
     ·refine RS.p (Pu.move rfl) rfl rfl ?_
      refine RS.joinV 6 48 (.bool (decide (((((b13 = true) ∧ (x2.1.n = a0_c.n)) ∧ (x2.1.pos = a0_c.pos)) ∧ (x2.1.tile = a0_c.tile)) ∧ (x2.1.w = a0_c.w)))) [(1, _), (3, _)] ⟨rfl, rfl, trivial⟩ ?_ ?_
      ·refine RS.p (Pu.move rfl) rfl rfl ?_
       refine RS.joinV 6 55 (.bool (decide ((((((b13 = true) ∧ (x2.1.n = a0_c.n)) ∧ (x2.1.pos = a0_c.pos)) ∧ (x2.1.tile = a0_c.tile)) ∧ (x2.1.w = a0_c.w)) ∧ (x2.1.h = a0_c.h)))) [(1, _), (3, _)] ⟨rfl, rfl, trivial⟩ ?_ ?_
       ·refine RS.p (Pu.move rfl) rfl rfl ?_
        refine RS.joinV 8 64 (.bool (decide (((((((b13 = true) ∧ (x2.1.n = a0_c.n)) ∧ (x2.1.pos = a0_c.pos)) ∧ (x2.1.tile = a0_c.tile)) ∧ (x2.1.w = a0_c.w)) ∧ (x2.1.h = a0_c.h)) ∧ ((x2.1.units.length : Int) = (a0_c.units.length : Int))))) [] trivial ?_ ?_
        ·refine RS.p (Pu.assign rfl) rfl rfl ?_
         refine RS.nil (hK3 _ _ ?_)
         obtain rfl := Option.some.inj H
         refine T.rt (Cont.ret1 rfl rfl fun w' s => ?_)
         exact ⟨rfl, s.ext⟩
        ·intro hJ25
         refine RS.splitP 56 rfl (fun hc24 => ?_) (fun hc24 => ?_)
         ·refine RS.p (Pu.fieldAddr fd63_4 rfl) rfl rfl ?_
          refine RS.q (Qt.ldB 2 ty23 rfl rfl rfl) rfl rfl ?_
          refine RS.p (Pu.lenSl sl23 rfl) rfl rfl ?_
          refine RS.p (Pu.fieldAddr fd63_4 rfl) rfl rfl ?_
          refine RS.q (Qt.ldB 0 ty23 rfl rfl rfl) rfl rfl ?_
          refine RS.p (Pu.lenSl sl23 rfl) rfl rfl ?_
          refine RS.p (Pu.bin rfl rfl rfl) rfl rfl ?_
          refine RS.p (Pu.pickT rfl rfl) rfl rfl ?_
          exact hJ25 _ _ ⟨dAndT hc24, trivial⟩ (fun w s => s)
         ·refine RS.no rfl rfl ?_
          refine RS.no rfl rfl ?_
          refine RS.no rfl rfl ?_
          refine RS.no rfl rfl ?_
          refine RS.no rfl rfl ?_
          refine RS.no rfl rfl ?_
          refine RS.no rfl rfl ?_
          refine RS.p (Pu.pickF rfl rfl) rfl rfl ?_
          exact hJ25 _ _ ⟨dAndF hc24, trivial⟩ (fun w s => s)
       ·intro hJ23
        refine RS.splitP 49 rfl (fun hc22 => ?_) (fun hc22 => ?_)
        ·refine RS.p (Pu.fieldAddr fd63_7 rfl) rfl rfl ?_
         refine RS.q (Qt.ldB 2 ty3 rfl rfl rfl) rfl rfl ?_
         refine RS.p (Pu.fieldAddr fd63_7 rfl) rfl rfl ?_
         refine RS.q (Qt.ldB 0 ty3 rfl rfl rfl) rfl rfl ?_
         refine RS.p (Pu.bin rfl rfl rfl) rfl rfl ?_
         refine RS.p (Pu.pickT rfl rfl) rfl rfl ?_
         exact hJ23 _ _ ⟨dAndT hc22, rfl, rfl, trivial⟩ (fun w s => s)
        ·refine RS.no rfl rfl ?_
         refine RS.no rfl rfl ?_
         refine RS.no rfl rfl ?_
         refine RS.no rfl rfl ?_
         refine RS.no rfl rfl ?_
         refine RS.p (Pu.pickF rfl rfl) rfl rfl ?_
         exact hJ23 _ _ ⟨dAndF hc22, rfl, rfl, trivial⟩ (fun w s => s)
      ·intro hJ21
       refine RS.splitP 42 rfl (fun hc20 => ?_) (fun hc20 => ?_)
       ·refine RS.p (Pu.fieldAddr fd63_6 rfl) rfl rfl ?_
        refine RS.q (Qt.ldB 2 ty3 rfl rfl rfl) rfl rfl ?_
        refine RS.p (Pu.fieldAddr fd63_6 rfl) rfl rfl ?_
        refine RS.q (Qt.ldB 0 ty3 rfl rfl rfl) rfl rfl ?_
        refine RS.p (Pu.bin rfl rfl rfl) rfl rfl ?_
        refine RS.p (Pu.pickT rfl rfl) rfl rfl ?_
        exact hJ21 _ _ ⟨dAndT hc20, rfl, rfl, trivial⟩ (fun w s => s)
       ·refine RS.no rfl rfl ?_
        refine RS.no rfl rfl ?_
        refine RS.no rfl rfl ?_
        refine RS.no rfl rfl ?_
        refine RS.no rfl rfl ?_
        refine RS.p (Pu.pickF rfl rfl) rfl rfl ?_
        exact hJ21 _ _ ⟨dAndF hc20, rfl, rfl, trivial⟩ (fun w s => s)
     ·intro hJ19
      refine RS.splitP 35 rfl (fun hc18 => ?_) (fun hc18 => ?_)
      ·refine RS.p (Pu.fieldAddr fd63_5 rfl) rfl rfl ?_
       refine RS.q (Qt.ldB 2 ty3 rfl rfl rfl) rfl rfl ?_
       refine RS.p (Pu.fieldAddr fd63_5 rfl) rfl rfl ?_
       refine RS.q (Qt.ldB 0 ty3 rfl rfl rfl) rfl rfl ?_
       refine RS.p (Pu.bin rfl rfl rfl) rfl rfl ?_
       refine RS.p (Pu.pickT rfl rfl) rfl rfl ?_
       exact hJ19 _ _ ⟨dAndT hc18, rfl, rfl, trivial⟩ (fun w s => s)
      ·refine RS.no rfl rfl ?_
       refine RS.no rfl rfl ?_
       refine RS.no rfl rfl ?_
       refine RS.no rfl rfl ?_
       refine RS.no rfl rfl ?_
       refine RS.p (Pu.pickF rfl rfl) rfl rfl ?_
       exact hJ19 _ _ ⟨dAndF hc18, rfl, rfl, trivial⟩ (fun w s => s)
    ·intro hJ17
     refine RS.splitP 28 rfl (fun hc16 => ?_) (fun hc16 => ?_)
     ·refine RS.p (Pu.fieldAddr fd63_8 rfl) rfl rfl ?_
      refine RS.q (Qt.ldBA (us := [_, _]) 2 ty61 rfl rfl rfl rfl) rfl rfl ?_
      refine RS.p (Pu.fieldAddr fd63_8 rfl) rfl rfl ?_
      refine RS.q (Qt.ldBA (us := [_, _]) 0 ty61 rfl rfl rfl rfl) rfl rfl ?_
      refine RS.p (Pu.eqSt eqt61 rfl rfl rfl (eq_Vec x2.1.pos a0_c.pos)) rfl rfl ?_
      refine RS.p (Pu.pickT rfl rfl) rfl rfl ?_
      exact hJ17 _ _ ⟨dAndT hc16, rfl, rfl, trivial⟩ (fun w s => s)
     ·refine RS.no rfl rfl ?_
      refine RS.no rfl rfl ?_
      refine RS.no rfl rfl ?_
      refine RS.no rfl rfl ?_
      refine RS.no rfl rfl ?_
      refine RS.p (Pu.pickF rfl rfl) rfl rfl ?_
      exact hJ17 _ _ ⟨dAndF hc16, rfl, rfl, trivial⟩ (fun w s => s)
   ·intro hJ15
    refine RS.split 21 rfl (fun hc14 => ?_) (fun hc14 => ?_)
    ·refine RS.p (Pu.fieldAddr fd63_3 rfl) rfl rfl ?_
     refine RS.q (Qt.ldB 2 ty3 rfl rfl rfl) rfl rfl ?_
     refine RS.p (Pu.fieldAddr fd63_3 rfl) rfl rfl ?_
     refine RS.q (Qt.ldB 0 ty3 rfl rfl rfl) rfl rfl ?_
     refine RS.p (Pu.bin rfl rfl rfl) rfl rfl ?_
     refine RS.p (Pu.pickT rfl rfl) rfl rfl ?_
     exact hJ15 _ _ ⟨dAndT hc14, rfl, rfl, trivial⟩ (fun w s => s)
    ·refine RS.no rfl rfl ?_
     refine RS.no rfl rfl ?_
     refine RS.no rfl rfl ?_
     refine RS.no rfl rfl ?_
     refine RS.no rfl rfl ?_
     refine RS.p (Pu.pickF rfl rfl) rfl rfl ?_
     exact hJ15 _ _ ⟨dAndF (bne_of hc14), rfl, rfl, trivial⟩ (fun w s => s)
  ·intro z26 H hJ12
   refine RS.split 16 rfl (fun hc11 => ?_) (fun hc11 => ?_)
   ·have H := ifT hc11 H
    refine RS.p (Pu.fieldAddr fd63_1 rfl) rfl rfl ?_
    refine RS.q (Qt.ldB 0 ty3 rfl rfl rfl) rfl rfl ?_
    obtain ⟨x27, hx27, H⟩ := bindE H
    refine RS.q (Qt.call (vs := [.int .i64 a0_c.seq, .int .i64 0, .int .i64 1099511627776]) ent77 rfl fun w s => command_within_walk a0_c.seq 0 1099511627776 w  hx27) rfl rfl ?_
    refine RS.p (Pu.pickT rfl rfl) rfl rfl ?_
    obtain rfl := Option.some.inj H
    exact hJ12 _ _ ⟨rfl, rfl, rfl, trivial⟩ (fun w s => s)
   ·have H := ifB hc11 H
    refine RS.no rfl rfl ?_
    refine RS.no rfl rfl ?_
    refine RS.no rfl rfl ?_
    refine RS.p (Pu.pickF rfl rfl) rfl rfl ?_
    obtain rfl := Option.some.inj H
    exact hJ12 _ _ ⟨rfl, rfl, rfl, trivial⟩ (fun w s => s)
 ·intro z28 H hJ9
  refine RS.split 11 rfl (fun hc8 => ?_) (fun hc8 => ?_)
  ·have H := ifT hc8 H
   refine RS.p (Pu.fieldAddr fd63_0 rfl) rfl rfl ?_
   refine RS.q (Qt.ldB 0 ty3 rfl rfl rfl) rfl rfl ?_
   obtain ⟨x29, hx29, H⟩ := bindE H
   refine RS.q (Qt.call (vs := [.int .i64 a0_c.player, .int .i64 1, .int .i64 8]) ent77 rfl fun w s => command_within_walk a0_c.player 1 8 w  hx29) rfl rfl ?_
   refine RS.p (Pu.pickT rfl rfl) rfl rfl ?_
   obtain rfl := Option.some.inj H
   exact hJ9 _ _ ⟨rfl, rfl, rfl, trivial⟩ (fun w s => s)
  ·have H := ifB hc8 H
   refine RS.no rfl rfl ?_
   refine RS.no rfl rfl ?_
   refine RS.no rfl rfl ?_
   refine RS.p (Pu.pickF rfl rfl) rfl rfl ?_
   obtain rfl := Option.some.inj H
   exact hJ9 _ _ ⟨rfl, rfl, rfl, trivial⟩ (fun w s => s)
theorem command_Own_walk (a0_c : Cmd) (w : World) {v0 : Value} (h0 : R (hpOf w) a0_c.units [v0]) {r : Cmd} (H : command_Own a0_c = some r) : Calls Try.prog 78 #[.agg #[.int .i64 a0_c.player, .int .i64 a0_c.seq, .int .i64 a0_c.kind, .int .i64 a0_c.n, v0, .int .i64 a0_c.tile, .int .i64 a0_c.w, .int .i64 a0_c.h, .int .i64 a0_c.pos.x, .int .i64 a0_c.pos.y]] w fun e w' => ∃ q1 : (Option Nat × Nat), e = .returned (.agg #[.int .i64 r.player, .int .i64 r.seq, .int .i64 r.kind, .int .i64 r.n, rowV q1 r.units.length, .int .i64 r.tile, .int .i64 r.w, .int .i64 r.h, .int .i64 r.pos.x, .int .i64 r.pos.y]) ∧ Sat w [row nilH 3 (rowV q1 r.units.length) r.units] w' := by
 have hm0 := R_max h0
 obtain ⟨p0, c0, rfl⟩ := R_form h0
 unfold command_Own at H
 refine T.enter (args := [_]) (S := Sat w []) Try.func78 rfl rfl (Sat.start w) ?_
 refine T.seq fun K1 hK1 => ?_
 refine T.region ?_
 refine RS.solid (Sd.box (cs := [_, _, _, _, _, _, _, _, _, _]) rfl rfl) rfl rfl fun b1 => ?_
 refine RS.solid (Sd.alloc zr63 rfl) rfl rfl fun b2 => ?_
 refine RS.nil (hK1 _ _ ?_)
 refine T.seq fun K2 hK2 => ?_
 refine T.region ?_
 refine RS.p (Pu.fieldAddr fd63_4 rfl) rfl rfl ?_
 refine RS.q (Qt.ldB 0 ty23 rfl rfl rfl) rfl rfl ?_
 obtain ⟨x3, hx3, H⟩ := bindE H
 refine RS.solid (Sd.callN (vs := [.slice p0 a0_c.units.length c0]) ent60 rfl (fun w s => slices_Clone_Int_walk a0_c.units w ((Rd.base h0) w s) hx3)) rfl rfl fun q4 => ?_
 refine RS.p (Pu.fieldAddr fd63_4 rfl) rfl rfl ?_
 refine RS.solid (Sd.stB (cs' := [_, _, _, _, _, _, _, _, _, _]) 0 ty23 rfl rfl rfl rfl rfl rfl rfl rfl) rfl rfl fun _ => ?_
 refine RS.nil (hK2 _ _ (T.conseq (fr' := [(1, _), (2, _)]) ?_ ⟨rfl, rfl, trivial⟩ (fun _ s => s)))
 refine T.seq fun K3 hK3 => ?_
 refine T.region ?_
 refine RS.q (Qt.ldBA (us := [_, _, _, _, _, _, _, _, _, _]) 0 ty63 rfl rfl rfl rfl) rfl rfl ?_
 refine RS.solid (Sd.stB (cs' := [_, _, _, _, _, _, _, _, _, _]) 1 ty63 rfl rfl rfl rfl rfl rfl rfl rfl) rfl rfl fun _ => ?_
 refine RS.nil (hK3 _ _ ?_)
 obtain rfl := Option.some.inj H
 refine T.rt (Cont.retC 1 rfl ty63 rfl rfl rfl fun w' s => ?_)
 exact ⟨q4, rfl, s.pick [2] (by decide) rfl⟩
theorem command_OwnAll_walk (a0_l : List Cmd) (w : World) {v0 : Value} (h0 : R (hpOf w) a0_l [v0]) {r : List Cmd} (H : command_OwnAll a0_l = some r) : Calls Try.prog 68 #[v0] w fun e w' => ∃ q1 : (Option Nat × Nat), e = .returned (rowV q1 r.length) ∧ Sat w [drow 63 (rowV q1 r.length) r] w' := by
 have hm0 := R_max h0
 obtain ⟨p0, c0, rfl⟩ := R_form h0
 unfold command_OwnAll at H
 refine T.enter (args := [_]) (S := Sat w []) Try.func68 rfl rfl (Sat.start w) ?_
 refine T.seq fun K1 hK1 => ?_
 refine T.region ?_
 refine RS.p (Pu.assign rfl) rfl rfl ?_
 refine RS.nil (hK1 _ _ ?_)
 refine T.seq fun K2 hK2 => ?_
 refine T.seq fun K3 hK3 => ?_
 refine T.region ?_
 refine RS.p (Pu.move rfl) rfl rfl ?_
 refine RS.p (Pu.lenSl sl33 rfl) rfl rfl ?_
 refine RS.p (Pu.move rfl) rfl rfl ?_
 refine RS.nil (hK3 _ _ ?_)
 refine T.joinE (σ := List Cmd) (γ := (Option Nat × Nat)) H (fun s => s) [] trivial (fun v2 q3 => [(2, rowV q3 v2.length)]) (fun v2 q3 => Sat w [drow 63 (rowV q3 v2.length) v2]) ?_ ?_
 ·rintro v2 q3 H
  try dsimp only [Ex.then] at H
  refine Cont.conseq (fr' := [(2, _)]) ?_ ⟨rfl, trivial⟩ (fun _ s => s)
  refine id (hK2 _ _ ?_)
  refine T.seq fun K4 hK4 => ?_
  refine T.region ?_
  refine RS.p (Pu.move rfl) rfl rfl ?_
  refine RS.p (Pu.assign rfl) rfl rfl ?_
  refine RS.nil (hK4 _ _ ?_)
  obtain rfl := Option.some.inj H
  refine T.rt (Cont.ret1 rfl rfl fun w' s => ?_)
  exact ⟨q3, rfl, s.pick [0] (by decide) rfl⟩
 ·intro z1 hz1 HX1 hJ1
  refine T.block ?_
  refine T.loopA (γ := (Option Nat × Nat)) hz1 [(5, _), (6, _)] (fun (l4, v6) q5 => [(2, rowV q5 l4.length), (7, .int .i64 v6)]) (fun (l4, v6) q5 => Sat w [drow 63 (rowV q5 l4.length) l4]) (none, 0) ⟨rfl, rfl, trivial⟩ ⟨rfl, rfl, trivial⟩ (fun w s => (s.nilRowG (α := Cmd) 63).pick [0] (by decide) rfl) ?_
  rintro ⟨l4, v6⟩ q5 y7 H hd1 KL1 hL1
  try dsimp only [Ex.then] at H
  refine T.conseq (fr' := [(2, _), (7, _), (5, _), (6, _)]) ?_ ⟨rfl, rfl, rfl, rfl, trivial⟩ (fun _ s => s)
  refine T.seq fun K5 hK5 => ?_
  refine T.region ?_
  refine RS.p (Pu.bin rfl rfl rfl) rfl rfl ?_
  refine RS.nil (hK5 _ _ ?_)
  refine T.seq fun K6 hK6 => ?_
  refine T.condP rfl (fun hc8 => ?_) (fun hc8 => ?_)
  ·have H := ifT hc8 H
   refine T.skip (hK6 _ _ ?_)
   refine T.seq fun K7 hK7 => ?_
   refine T.block ?_
   refine T.seq fun K8 hK8 => ?_
   refine T.region ?_
   obtain ⟨g9, H⟩ := gdE H
   obtain ⟨bl10, ol11, rfl⟩ := R_ptr h0 (ne_of_pos (pos_of g9))
   refine RS.p (Pu.indexSl sl33 rfl rfl g9) rfl rfl ?_
   obtain ⟨c12, hc13, ha14⟩ := R_el (α := Cmd) h0 g9
   obtain ⟨u15, rfl, hu15⟩ := hc13
   obtain ⟨p16, cc17, rfl⟩ := R_form hu15
   refine RS.q (Qt.ldZ (cs := [_, _, _, _, _, _, _, _, _, _]) ty63 rfl ha14 Held.base rfl) rfl rfl ?_
   refine RS.solid (Sd.alloc zr63 rfl) rfl rfl fun b18 => ?_
   refine RS.solid (Sd.stB (cs' := [_, _, _, _, _, _, _, _, _, _]) 1 ty63 rfl rfl rfl rfl rfl rfl rfl rfl) rfl rfl fun _ => ?_
   refine RS.nil (hK8 _ _ (T.conseq (fr' := [(2, _), (4, _), (5, _), (6, _), (7, _)]) ?_ ⟨rfl, rfl, rfl, rfl, rfl, trivial⟩ (fun _ s => s)))
   refine T.region ?_
   refine RS.p (Pu.move rfl) rfl rfl ?_
   refine RS.q (Qt.ldBA (us := [_, _, _, _, _, _, _, _, _, _]) 1 ty63 rfl rfl rfl rfl) rfl rfl ?_
   obtain ⟨x19, hx19, H⟩ := bindE H
   refine RS.solid (Sd.callN (vs := [.agg #[.int .i64 ((gi a0_l v6).player), .int .i64 ((gi a0_l v6).seq), .int .i64 ((gi a0_l v6).kind), .int .i64 ((gi a0_l v6).n), .slice p16 ((gi a0_l v6).units).length cc17, .int .i64 ((gi a0_l v6).tile), .int .i64 ((gi a0_l v6).w), .int .i64 ((gi a0_l v6).h), .int .i64 (((gi a0_l v6).pos).x), .int .i64 (((gi a0_l v6).pos).y)]]) ent78 rfl (fun w s => command_Own_walk (gi a0_l v6) w ((Rd.base hu15) w s) hx19)) rfl rfl fun q20 => ?_
   refine RS.solid (Sd.litS (cs := [_, _, _, _, _, _, _, _, _, _]) sl33 zr63 rfl rfl rfl rfl rfl) rfl rfl fun b21 => ?_
   obtain ⟨g23, H⟩ := gdE H
   refine RS.solid (Sd.pre (fun w s => (Sat.starAt 2 4 (Sat.starAt 2 5 ((s.noStars).noStars) rfl rfl (by decide)) rfl rfl (by decide))) (Sd.appL (α := Cmd) 0 3 2 ([x19] : List Cmd) rfl rfl rfl (DRF.cons' (α := Cmd) (x := x19) (fun _ h => ⟨_, rfl, h⟩) DRF.nil') rfl sl33 zr63 rfl rfl rfl rfl g23 (by decide))) rfl rfl fun q22 => ?_
   refine RS.p (Pu.assign rfl) rfl rfl ?_
   refine RS.nil (hK7 _ _ (T.conseq (fr' := [(2, _), (5, _), (6, _), (7, _)]) ?_ ⟨rfl, rfl, rfl, rfl, trivial⟩ (fun _ s => s)))
   refine T.region ?_
   obtain ⟨g24, H⟩ := gdE H
   refine RS.p (Pu.addS rfl rfl g24) rfl rfl ?_
   refine RS.p (Pu.move rfl) rfl rfl ?_
   refine RS.nil (hL1 _ _ ((l4 ++ ([x19] : List Cmd)), (v6 + 1)) q22 H ⟨rfl, rfl, trivial⟩ ⟨rfl, rfl, trivial⟩ (fun w s => s.pick [0] (by decide) rfl))
  ·have H := ifF hc8 H
   obtain rfl := hd1 _ H
   refine T.xt (hJ1 _ _ l4 q5 HX1 trivial ⟨rfl, trivial⟩ (fun w s => s))
theorem cmp_isNaN_walk (a0_x : Int) (w : World) {r : Bool} (H : cmp_isNaN a0_x = some r) : Calls Try.prog 85 #[.int .i64 a0_x] w fun e w' => e = .returned (.bool r) ∧ Ext w w' := by
 unfold cmp_isNaN at H
 refine T.enter (args := [_]) (S := Sat w []) Try.func85 rfl rfl (Sat.start w) ?_
 refine T.seq fun K1 hK1 => ?_
 refine T.region ?_
 refine RS.p (Pu.assign rfl) rfl rfl ?_
 refine RS.nil (hK1 _ _ ?_)
 refine T.seq fun K2 hK2 => ?_
 refine T.region ?_
 refine RS.p (Pu.move rfl) rfl rfl ?_
 refine RS.p (Pu.move rfl) rfl rfl ?_
 refine RS.p (Pu.bin rfl rfl rfl) rfl rfl ?_
 refine RS.p (Pu.assign rfl) rfl rfl ?_
 refine RS.nil (hK2 _ _ (T.conseq (fr' := [(2, _)]) ?_ ⟨rfl, trivial⟩ (fun _ s => s)))
 obtain rfl := Option.some.inj H
 refine T.rt (Cont.ret1 rfl rfl fun w' s => ?_)
 exact ⟨rfl, s.ext⟩
theorem cmp_Compare_walk (a0_x : Int) (a1_y : Int) (w : World) {r : Int} (H : cmp_Compare a0_x a1_y = some r) : Calls Try.prog 73 #[.int .i64 a0_x, .int .i64 a1_y] w fun e w' => e = .returned (.int .i64 r) ∧ Ext w w' := by
 unfold cmp_Compare at H
 refine T.enter (args := [_, _]) (S := Sat w []) Try.func73 rfl rfl (Sat.start w) ?_
 refine T.seq fun K1 hK1 => ?_
 refine T.region ?_
 refine RS.p (Pu.assign rfl) rfl rfl ?_
 refine RS.nil (hK1 _ _ ?_)
 refine T.seq fun K2 hK2 => ?_
 refine T.region ?_
 refine RS.p (Pu.move rfl) rfl rfl ?_
 obtain ⟨x1, hx1, H⟩ := bindE H
 refine RS.q (Qt.call (vs := [.int .i64 a0_x]) ent85 rfl fun w s => cmp_isNaN_walk a0_x w  hx1) rfl rfl ?_
 refine RS.p (Pu.assign rfl) rfl rfl ?_
 refine RS.nil (hK2 _ _ (T.conseq (fr' := [(0, _), (1, _), (5, _)]) ?_ ⟨rfl, rfl, rfl, trivial⟩ (fun _ s => s)))
 refine T.seq fun K3 hK3 => ?_
 refine T.region ?_
 refine RS.p (Pu.move rfl) rfl rfl ?_
 obtain ⟨x2, hx2, H⟩ := bindE H
 refine RS.q (Qt.call (vs := [.int .i64 a1_y]) ent85 rfl fun w s => cmp_isNaN_walk a1_y w  hx2) rfl rfl ?_
 refine RS.p (Pu.assign rfl) rfl rfl ?_
 refine RS.nil (hK3 _ _ ?_)
 refine T.seq fun K4 hK4 => ?_
 refine T.seq fun K5 hK5 => ?_
 refine T.region ?_
 refine RS.p (Pu.move rfl) rfl rfl ?_
 refine RS.nil (hK5 _ _ ?_)
 refine T.cond rfl (fun hc3 => ?_) (fun hc3 => ?_)
 ·have H := ifT hc3 H
  refine T.conseq (fr' := [(6, _)]) ?_ ⟨rfl, trivial⟩ (fun _ s => s)
  refine T.seq fun K6 hK6 => ?_
  refine T.seq fun K7 hK7 => ?_
  refine T.region ?_
  refine RS.p (Pu.move rfl) rfl rfl ?_
  refine RS.nil (hK7 _ _ ?_)
  refine T.cond rfl (fun hc4 => ?_) (fun hc4 => ?_)
  ·have H := ifT hc4 H
   refine T.seq fun K8 hK8 => ?_
   refine T.region ?_
   refine RS.p (Pu.assign rfl) rfl rfl ?_
   refine RS.nil (hK8 _ _ ?_)
   obtain rfl := Option.some.inj H
   refine T.rt (Cont.ret1 rfl rfl fun w' s => ?_)
   exact ⟨rfl, s.ext⟩
  ·have H := ifB hc4 H
   refine T.skip (hK6 _ _ ?_)
   refine T.seq fun K9 hK9 => ?_
   refine T.region ?_
   refine RS.p (Pu.assign rfl) rfl rfl ?_
   refine RS.nil (hK9 _ _ ?_)
   obtain rfl := Option.some.inj H
   refine T.rt (Cont.ret1 rfl rfl fun w' s => ?_)
   exact ⟨rfl, s.ext⟩
 ·have H := ifB hc3 H
  refine T.skip (hK4 _ _ (T.conseq (fr' := [(0, _), (1, _), (6, _)]) ?_ ⟨rfl, rfl, rfl, trivial⟩ (fun _ s => s)))
  refine T.seq fun K10 hK10 => ?_
  refine T.seq fun K11 hK11 => ?_
  refine T.region ?_
  refine RS.p (Pu.move rfl) rfl rfl ?_
  refine RS.nil (hK11 _ _ ?_)
  refine T.cond rfl (fun hc5 => ?_) (fun hc5 => ?_)
  ·have H := ifT hc5 H
   refine T.conseq (fr' := []) ?_ trivial (fun _ s => s)
   refine T.seq fun K12 hK12 => ?_
   refine T.region ?_
   refine RS.p (Pu.assign rfl) rfl rfl ?_
   refine RS.nil (hK12 _ _ ?_)
   obtain rfl := Option.some.inj H
   refine T.rt (Cont.ret1 rfl rfl fun w' s => ?_)
   exact ⟨rfl, s.ext⟩
  ·have H := ifB hc5 H
   refine T.skip (hK10 _ _ ?_)
   refine T.seq fun K13 hK13 => ?_
   refine T.seq fun K14 hK14 => ?_
   refine T.region ?_
   refine RS.p (Pu.move rfl) rfl rfl ?_
   refine RS.p (Pu.move rfl) rfl rfl ?_
   refine RS.p (Pu.bin rfl rfl rfl) rfl rfl ?_
   refine RS.nil (hK14 _ _ ?_)
   refine T.condP rfl (fun hc6 => ?_) (fun hc6 => ?_)
   ·have H := ifT hc6 H
    refine T.conseq (fr' := []) ?_ trivial (fun _ s => s)
    refine T.seq fun K15 hK15 => ?_
    refine T.region ?_
    refine RS.p (Pu.assign rfl) rfl rfl ?_
    refine RS.nil (hK15 _ _ ?_)
    obtain rfl := Option.some.inj H
    refine T.rt (Cont.ret1 rfl rfl fun w' s => ?_)
    exact ⟨rfl, s.ext⟩
   ·have H := ifF hc6 H
    refine T.skip (hK13 _ _ (T.conseq (fr' := [(0, _), (1, _)]) ?_ ⟨rfl, rfl, trivial⟩ (fun _ s => s)))
    refine T.seq fun K16 hK16 => ?_
    refine T.seq fun K17 hK17 => ?_
    refine T.region ?_
    refine RS.p (Pu.move rfl) rfl rfl ?_
    refine RS.p (Pu.move rfl) rfl rfl ?_
    refine RS.p (Pu.bin rfl rfl rfl) rfl rfl ?_
    refine RS.nil (hK17 _ _ ?_)
    refine T.condP rfl (fun hc7 => ?_) (fun hc7 => ?_)
    ·have H := ifT hc7 H
     refine T.conseq (fr' := []) ?_ trivial (fun _ s => s)
     refine T.seq fun K18 hK18 => ?_
     refine T.region ?_
     refine RS.p (Pu.assign rfl) rfl rfl ?_
     refine RS.nil (hK18 _ _ ?_)
     obtain rfl := Option.some.inj H
     refine T.rt (Cont.ret1 rfl rfl fun w' s => ?_)
     exact ⟨rfl, s.ext⟩
    ·have H := ifF hc7 H
     refine T.skip (hK16 _ _ (T.conseq (fr' := []) ?_ trivial (fun _ s => s)))
     refine T.seq fun K19 hK19 => ?_
     refine T.region ?_
     refine RS.p (Pu.assign rfl) rfl rfl ?_
     refine RS.nil (hK19 _ _ ?_)
     obtain rfl := Option.some.inj H
     refine T.rt (Cont.ret1 rfl rfl fun w' s => ?_)
     exact ⟨rfl, s.ext⟩
theorem cmp_Or_walk (a0_vals : List Int) (w : World) {v0 : Value} (h0 : R (hpOf w) a0_vals [v0]) {r : Int} (H : cmp_Or a0_vals = some r) : Calls Try.prog 72 #[v0] w fun e w' => e = .returned (.int .i64 r) ∧ Ext w w' := by
 have hm0 := R_max h0
 obtain ⟨p0, c0, rfl⟩ := R_form h0
 unfold cmp_Or at H
 refine T.enter (args := [_]) (S := Sat w []) Try.func72 rfl rfl (Sat.start w) ?_
 refine T.seq fun K1 hK1 => ?_
 refine T.region ?_
 refine RS.p (Pu.assign rfl) rfl rfl ?_
 refine RS.nil (hK1 _ _ ?_)
 refine T.seq fun K2 hK2 => ?_
 refine T.region ?_
 refine RS.p (Pu.assign rfl) rfl rfl ?_
 refine RS.nil (hK2 _ _ ?_)
 refine T.seq fun K3 hK3 => ?_
 refine T.seq fun K4 hK4 => ?_
 refine T.region ?_
 refine RS.p (Pu.move rfl) rfl rfl ?_
 refine RS.p (Pu.lenSl sl23 rfl) rfl rfl ?_
 refine RS.p (Pu.move rfl) rfl rfl ?_
 refine RS.nil (hK4 _ _ ?_)
 refine T.joinE (σ := Unit) (γ := Unit) H Ex.go [(3, _)] ⟨rfl, trivial⟩ (fun _ _ => []) (fun _ _ => Sat w []) ?_ ?_
 ·rintro ⟨⟩ ⟨⟩ H
  try dsimp only [Ex.then] at H
  refine Cont.conseq (fr' := [(3, _)]) ?_ ⟨rfl, trivial⟩ (fun _ s => s)
  refine id (hK3 _ _ ?_)
  refine T.seq fun K5 hK5 => ?_
  refine T.region ?_
  refine RS.p (Pu.move rfl) rfl rfl ?_
  refine RS.p (Pu.assign rfl) rfl rfl ?_
  refine RS.nil (hK5 _ _ ?_)
  obtain rfl := Option.some.inj H
  refine T.rt (Cont.ret1 rfl rfl fun w' s => ?_)
  exact ⟨rfl, s.ext⟩
 ·intro z1 hz1 HX1 hJ1
  refine T.block ?_
  refine T.loopA (γ := Unit) hz1 [(3, _), (6, _), (7, _)] (fun v2 _ => [(8, .int .i64 v2)]) (fun v2 _ => Sat w []) () ⟨rfl, rfl, rfl, trivial⟩ ⟨rfl, trivial⟩ (fun w s => s) ?_
  rintro v2 ⟨⟩ y3 H hd1 KL1 hL1
  try dsimp only [Ex.then] at H
  refine T.conseq (fr' := [(8, _), (3, _), (6, _), (7, _)]) ?_ ⟨rfl, rfl, rfl, rfl, trivial⟩ (fun _ s => s)
  refine T.seq fun K6 hK6 => ?_
  refine T.region ?_
  refine RS.p (Pu.bin rfl rfl rfl) rfl rfl ?_
  refine RS.nil (hK6 _ _ ?_)
  refine T.seq fun K7 hK7 => ?_
  refine T.condP rfl (fun hc4 => ?_) (fun hc4 => ?_)
  ·have H := ifT hc4 H
   refine T.skip (hK7 _ _ ?_)
   refine T.seq fun K8 hK8 => ?_
   refine T.block ?_
   refine T.seq fun K9 hK9 => ?_
   refine T.region ?_
   obtain ⟨g5, H⟩ := gdE H
   obtain ⟨bl6, ol7, rfl⟩ := R_ptr h0 (ne_of_pos (pos_of g5))
   refine RS.p (Pu.indexSl sl23 rfl rfl g5) rfl rfl ?_
   refine RS.q (Qt.ld0 (α := Int) (Rd.base h0) ty3 rfl rfl g5 (by rintro _ _ rfl; rfl)) rfl rfl ?_
   refine RS.p (Pu.assign rfl) rfl rfl ?_
   refine RS.nil (hK9 _ _ (T.conseq (fr' := [(3, _), (5, _), (6, _), (7, _), (8, _)]) ?_ ⟨rfl, rfl, rfl, rfl, rfl, trivial⟩ (fun _ s => s)))
   refine T.seq fun K10 hK10 => ?_
   refine T.region ?_
   refine RS.p (Pu.move rfl) rfl rfl ?_
   refine RS.p (Pu.move rfl) rfl rfl ?_
   refine RS.p (Pu.bin rfl rfl rfl) rfl rfl ?_
   refine RS.nil (hK10 _ _ ?_)
   refine T.condP rfl (fun hc8 => ?_) (fun hc8 => ?_)
   ·have H := ifT hc8 H
    refine T.conseq (fr' := [(5, _)]) ?_ ⟨rfl, trivial⟩ (fun _ s => s)
    refine T.seq fun K11 hK11 => ?_
    refine T.region ?_
    refine RS.p (Pu.move rfl) rfl rfl ?_
    refine RS.p (Pu.assign rfl) rfl rfl ?_
    refine RS.nil (hK11 _ _ ?_)
    obtain rfl := hd1 _ H
    have H := HX1
    obtain rfl := Option.some.inj H
    refine T.rt (Cont.ret1 rfl rfl fun w' s => ?_)
    exact ⟨rfl, s.ext⟩
   ·have H := ifF hc8 H
    refine T.skip (hK8 _ _ (T.conseq (fr' := [(3, _), (6, _), (7, _), (8, _)]) ?_ ⟨rfl, rfl, rfl, rfl, trivial⟩ (fun _ s => s)))
    refine T.region ?_
    obtain ⟨g9, H⟩ := gdE H
    refine RS.p (Pu.addS rfl rfl g9) rfl rfl ?_
    refine RS.p (Pu.move rfl) rfl rfl ?_
    refine RS.nil (hL1 _ _ (v2 + 1) () H ⟨rfl, rfl, rfl, trivial⟩ ⟨rfl, trivial⟩ (fun w s => s))
  ·have H := ifF hc4 H
   obtain rfl := hd1 _ H
   refine T.xt (hJ1 _ _ () () HX1 ⟨rfl, trivial⟩ trivial (fun w s => s))
theorem turns_less_walk (a0_a : Inp) (a1_b : Inp) (w : World) {v0 v1 : Value} {r : Int} (H : turns_less a0_a a1_b = some r) : Calls Try.prog 63 #[.agg #[.int .i64 a0_a.turn, .int .i64 a0_a.player, v0], .agg #[.int .i64 a1_b.turn, .int .i64 a1_b.player, v1]] w fun e w' => e = .returned (.int .i64 r) ∧ Ext w w' := by
 unfold turns_less at H
 refine T.enter (args := [_, _]) (S := Sat w []) Try.func63 rfl rfl (Sat.start w) ?_
 refine T.seq fun K1 hK1 => ?_
 refine T.region ?_
 refine RS.solid (Sd.box (cs := [_, _, _]) rfl rfl) rfl rfl fun b1 => ?_
 refine RS.solid (Sd.box (cs := [_, _, _]) rfl rfl) rfl rfl fun b2 => ?_
 refine RS.p (Pu.assign rfl) rfl rfl ?_
 refine RS.nil (hK1 _ _ (T.conseq (fr' := [(2, _), (3, _)]) ?_ ⟨rfl, rfl, trivial⟩ (fun _ s => s)))
 refine T.seq fun K2 hK2 => ?_
 refine T.drawn (fun _ => True) [(0, .pu), (1, .rd), (2, .pu), (3, .rd), (4, .rd), (5, .pu), (6, .rd), (7, .pu), (8, .rd), (9, .rd), (10, .so), (11, .rd), (12, .pu)] mixed (ClE.sat _ _) (by kernel_rfl) ?_
 refine RD.p (fun _ _ => trivial) rfl (Pu.fieldAddr fd35_0 rfl) rfl rfl ?_
 refine RD.q (fun _ _ => trivial) rfl (Qt.ldB 0 ty3 rfl rfl rfl) rfl rfl ?_
 refine RD.p (fun _ _ => trivial) rfl (Pu.fieldAddr fd35_0 rfl) rfl rfl ?_
 refine RD.q (fun _ _ => trivial) rfl (Qt.ldB 1 ty3 rfl rfl rfl) rfl rfl ?_
 obtain ⟨x3, hx3, H⟩ := bindE H
 refine RD.q (fun _ _ => trivial) rfl (Qt.call (vs := [.int .i64 a0_a.turn, .int .i64 a1_b.turn]) ent73 rfl fun w s => cmp_Compare_walk a0_a.turn a1_b.turn w  hx3) rfl rfl ?_
 refine RD.p (fun _ _ => trivial) rfl (Pu.fieldAddr fd35_1 rfl) rfl rfl ?_
 refine RD.q (fun _ _ => trivial) rfl (Qt.ldB 0 ty3 rfl rfl rfl) rfl rfl ?_
 refine RD.p (fun _ _ => trivial) rfl (Pu.fieldAddr fd35_1 rfl) rfl rfl ?_
 refine RD.q (fun _ _ => trivial) rfl (Qt.ldB 1 ty3 rfl rfl rfl) rfl rfl ?_
 obtain ⟨x4, hx4, H⟩ := bindE H
 refine RD.q (fun _ _ => trivial) rfl (Qt.call (vs := [.int .i64 a0_a.player, .int .i64 a1_b.player]) ent73 rfl fun w s => cmp_Compare_walk a0_a.player a1_b.player w  hx4) rfl rfl ?_
 refine RD.solid rfl (.inl rfl) rfl rfl (Sd.litS (cs := [_, _]) sl23 zr3 rfl rfl rfl rfl rfl) (fun _ => ClE.sat _ _) (fun _ _ _ => trivial) (fun _ _ _ s => s.drop1) fun b5 => ?_
 obtain ⟨x6, hx6, H⟩ := bindE H
 refine RD.q (fun _ _ => trivial) rfl (Qt.call (vs := [.slice (some ⟨b5, 0, none⟩) 2 2]) ent72 rfl fun w s => cmp_Or_walk [x3, x4] w ((Rd.ofLit (α := Int) (n := 2) (xs := [x3, x4]) 2 rfl (by decide) rfl ⟨[_], _, rfl, rfl, ⟨[_], _, rfl, rfl, rfl⟩⟩) w s) hx6) rfl rfl ?_
 refine RD.p (fun _ _ => trivial) rfl (Pu.assign rfl) rfl rfl ?_
 refine RD.nil (hK2 _ _ (T.conseq (fr' := [(4, _)]) ?_ ⟨rfl, trivial⟩ (fun _ s => s)))
 obtain rfl := Option.some.inj H
 refine T.rt (Cont.ret1 rfl rfl fun w' s => ?_)
 exact ⟨rfl, s.ext⟩
end Go.Proofs.Ytnadebijiaelkaa
