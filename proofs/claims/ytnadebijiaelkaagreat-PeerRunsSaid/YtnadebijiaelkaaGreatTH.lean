/-
  Walks of what is called: commands.
-/
import Derived.Test.YtnadebijiaelkaaGreatRows
import Derived.Test.YtnadebijiaelkaaGreatW3
import Derived.Test.YtnadebijiaelkaaGreatW5
set_option linter.unusedVariables false
set_option linter.unusedSimpArgs false
set_option maxRecDepth 20000
set_option maxHeartbeats 4000000
namespace Go.Proofs.YtnadebijiaelkaaGreat
open Go.Vg
open Enc (R)
theorem ent103 : Ent Tryz.prog 103 := ⟨_, _, Tryz.func103, by kernel_rfl, rfl⟩
theorem ent104 : Ent Tryz.prog 104 := ⟨_, _, Tryz.func104, by kernel_rfl, rfl⟩
theorem ent107 : Ent Tryz.prog 107 := ⟨_, _, Tryz.func107, by kernel_rfl, rfl⟩
theorem ent108 : Ent Tryz.prog 108 := ⟨_, _, Tryz.func108, by kernel_rfl, rfl⟩
theorem ent109 : Ent Tryz.prog 109 := ⟨_, _, Tryz.func109, by kernel_rfl, rfl⟩
theorem ent113 : Ent Tryz.prog 113 := ⟨_, _, Tryz.func113, by kernel_rfl, rfl⟩
theorem ent115 : Ent Tryz.prog 115 := ⟨_, _, Tryz.func115, by kernel_rfl, rfl⟩
theorem ent116 : Ent Tryz.prog 116 := ⟨_, _, Tryz.func116, by kernel_rfl, rfl⟩
theorem ent117 : Ent Tryz.prog 117 := ⟨_, _, Tryz.func117, by kernel_rfl, rfl⟩
theorem ent18 : Ent Tryz.prog 18 := ⟨_, _, Tryz.func18, by kernel_rfl, rfl⟩
theorem ent20 : Ent Tryz.prog 20 := ⟨_, _, Tryz.func20, by kernel_rfl, rfl⟩
theorem ent41 : Ent Tryz.prog 41 := ⟨_, _, Tryz.func41, by kernel_rfl, rfl⟩
theorem ent45 : Ent Tryz.prog 45 := ⟨_, _, Tryz.func45, by kernel_rfl, rfl⟩
theorem ent49 : Ent Tryz.prog 49 := ⟨_, _, Tryz.func49, by kernel_rfl, rfl⟩
theorem ent65 : Ent Tryz.prog 65 := ⟨_, _, Tryz.func65, by kernel_rfl, rfl⟩
theorem ent71 : Ent Tryz.prog 71 := ⟨_, _, Tryz.func71, by kernel_rfl, rfl⟩
theorem ent78 : Ent Tryz.prog 78 := ⟨_, _, Tryz.func78, by kernel_rfl, rfl⟩
theorem ent79 : Ent Tryz.prog 79 := ⟨_, _, Tryz.func79, by kernel_rfl, rfl⟩
theorem ent90 : Ent Tryz.prog 90 := ⟨_, _, Tryz.func90, by kernel_rfl, rfl⟩
theorem eqt86 : eqTy Tryz.prog 86 = some [0, 1] := by kernel_rfl
theorem fd41_0 : fdOff Tryz.prog 41 0 = some 0 := by kernel_rfl
theorem fd41_1 : fdOff Tryz.prog 41 1 = some 1 := by kernel_rfl
theorem fd41_2 : fdOff Tryz.prog 41 2 = some 2 := by kernel_rfl
theorem fd86_0 : fdOff Tryz.prog 86 0 = some 0 := by kernel_rfl
theorem fd86_1 : fdOff Tryz.prog 86 1 = some 1 := by kernel_rfl
theorem fd88_0 : fdOff Tryz.prog 88 0 = some 0 := by kernel_rfl
theorem fd88_1 : fdOff Tryz.prog 88 1 = some 1 := by kernel_rfl
theorem fd88_2 : fdOff Tryz.prog 88 2 = some 2 := by kernel_rfl
theorem fd88_3 : fdOff Tryz.prog 88 3 = some 3 := by kernel_rfl
theorem fd88_4 : fdOff Tryz.prog 88 4 = some 4 := by kernel_rfl
theorem fd88_5 : fdOff Tryz.prog 88 5 = some 5 := by kernel_rfl
theorem fd88_6 : fdOff Tryz.prog 88 6 = some 6 := by kernel_rfl
theorem fd88_7 : fdOff Tryz.prog 88 7 = some 7 := by kernel_rfl
theorem fd88_8 : fdOff Tryz.prog 88 8 = some 8 := by kernel_rfl
theorem sl22 : slTy Tryz.prog 22 = some (41, 3, 40) := by kernel_rfl
theorem sl39 : slTy Tryz.prog 39 = some (88, 10, 96) := by kernel_rfl
theorem st88 : stTy Tryz.prog 88 = some ([.int .i64 0, .int .i64 0, .int .i64 0, .int .i64 0, .slice none 0 0, .int .i64 0, .int .i64 0, .int .i64 0, .int .i64 0, .int .i64 0], [(0, 1), (1, 1), (2, 1), (3, 1), (4, 1), (5, 1), (6, 1), (7, 1), (8, 2)]) := by kernel_rfl
theorem ty2 : tySz Tryz.prog 2 = some (1, false) := by kernel_rfl
theorem ty23 : tySz Tryz.prog 23 = some (1, false) := by kernel_rfl
theorem ty3 : tySz Tryz.prog 3 = some (1, false) := by kernel_rfl
theorem ty39 : tySz Tryz.prog 39 = some (1, false) := by kernel_rfl
theorem ty41 : tySz Tryz.prog 41 = some (3, true) := by kernel_rfl
theorem ty86 : tySz Tryz.prog 86 = some (2, true) := by kernel_rfl
theorem ty88 : tySz Tryz.prog 88 = some (10, true) := by kernel_rfl
theorem zr41 : zeroOf Tryz.prog 41 = some (.agg #[.int .i64 0, .int .i64 0, .slice none 0 0]) := by kernel_rfl
theorem zr88 : zeroOf Tryz.prog 88 = some (.agg #[.int .i64 0, .int .i64 0, .int .i64 0, .int .i64 0, .slice none 0 0, .int .i64 0, .int .i64 0, .int .i64 0, .int .i64 0, .int .i64 0]) := by kernel_rfl
theorem throngref0_EqNumbers_walk (a0_a : List Int) (a1_b : List Int) (w : World) {v0 v1 : Value} (h0 : R (hpOf w) a0_a [v0]) (h1 : R (hpOf w) a1_b [v1]) {r : Bool} (H : throngref0_EqNumbers a0_a a1_b = some r) : Calls Tryz.prog 71 #[v0, v1] w fun e w' => e = .returned (.bool r) ∧ Ext w w' := by
 have hm0 := R_max h0
 obtain ⟨p0, c0, rfl⟩ := R_form h0
 have hm1 := R_max h1
 obtain ⟨p1, c1, rfl⟩ := R_form h1
 unfold throngref0_EqNumbers at H
 refine T.enter (args := [_, _]) (S := Sat w []) Tryz.func71 rfl rfl (Sat.start w) ?_
 refine T.seq fun K1 hK1 => T.region (rA rfl (RS.nil (hK1 _ _ ?_)))
 refine T.seq fun K2 hK2 => T.seq fun K3 hK3 => T.region (rM rfl (rp (Pu.lenSl sl23 rfl) (rM rfl (rp (Pu.lenSl sl23 rfl) (rp (Pu.bin rfl rfl rfl) (RS.nil (hK3 _ _ ?_)))))))
 refine T.condP rfl (fun hc1 => ?_) (fun hc1 => ?_)
 ·have H := ifT hc1 H
  refine cq [] ?_
  refine T.seq fun K4 hK4 => T.region (rA rfl (RS.nil (hK4 _ _ ?_)))
  obtain rfl := sj H
  refine T.rt (Cont.ret1 rfl rfl fun w' s => ?_)
  exact ⟨rfl, s.ext⟩
 ·have H := ifF hc1 H
  refine T.skip (hK2 _ _ (cq [(0, _), (1, _)] ?_))
  refine T.seq fun K5 hK5 => T.seq fun K6 hK6 => T.region (rA rfl (RS.nil (hK6 _ _ ?_)))
  refine T.joinE (σ := Unit) (γ := Unit) H Ex.go [] trivial (fun _ _ => []) (fun _ _ => Sat w []) ?_ ?_
  ·rintro ⟨⟩ ⟨⟩ H
   try dsimp only [Ex.then] at H
   refine Cont.conseq (fr' := []) ?_ trivial (fun _ s => s)
   refine id (hK5 _ _ ?_)
   refine T.seq fun K7 hK7 => T.region (rA rfl (RS.nil (hK7 _ _ ?_)))
   obtain rfl := sj H
   refine T.rt (Cont.ret1 rfl rfl fun w' s => ?_)
   exact ⟨rfl, s.ext⟩
  ·intro z2 hz2 HX2 hJ2
   refine T.block ?_
   refine T.loopA (γ := Unit) hz2 [(0, _), (1, _)] (fun v3 _ => [(5, .int .i64 v3)]) (fun v3 _ => Sat w []) () ⟨rfl, rfl, trivial⟩ ⟨rfl, trivial⟩ (fun w s => s) ?_
   rintro v3 ⟨⟩ y4 H hd2 KL2 hL2
   try dsimp only [Ex.then] at H
   refine cq [(5, _), (0, _), (1, _)] ?_
   refine T.seq fun K8 hK8 => T.seq fun K9 hK9 => T.region (rM rfl (rM rfl (rp (Pu.lenSl sl23 rfl) (rp (Pu.bin rfl rfl rfl) (RS.nil (hK9 _ _ ?_))))))
   refine T.condP rfl (fun hc5 => ?_) (fun hc5 => ?_)
   ·have H := ifT hc5 H
    refine T.skip (hK8 _ _ (cq [(0, _), (1, _), (5, _)] ?_))
    refine T.seq fun K10 hK10 => T.block (T.seq fun K11 hK11 => ?_)
    refine T.drawn (fun _ => True) [(0, .pu), (1, .pu), (2, .pu), (3, .rd), (4, .pu), (5, .pu), (6, .pu), (7, .rd), (8, .pu)] mixed (ClE.sat _ _) (by kernel_rfl) ?_
    refine dp rfl (Pu.move rfl) (dp rfl (Pu.move rfl) ?_)
    obtain ⟨g6, H⟩ := gdE H
    obtain ⟨bl7, ol8, rfl⟩ := R_ptr h0 (ne_of_pos (pos_of g6))
    refine dp rfl (Pu.indexSl sl23 rfl rfl g6) (dq rfl (Qt.ld0 (α := Int) (Rd.base h0) ty3 rfl rfl g6 (by rintro _ _ rfl; rfl)) (dp rfl (Pu.move rfl) (dp rfl (Pu.move rfl) ?_)))
    obtain ⟨g9, H⟩ := gdE H
    obtain ⟨bl10, ol11, rfl⟩ := R_ptr h1 (ne_of_pos (pos_of g9))
    refine dp rfl (Pu.indexSl sl23 rfl rfl g9) (dq rfl (Qt.ld0 (α := Int) (Rd.base h1) ty3 rfl rfl g9 (by rintro _ _ rfl; rfl)) (dp rfl (Pu.bin rfl rfl rfl) (RD.nil (hK11 _ _ ?_))))
    refine T.condP rfl (fun hc12 => ?_) (fun hc12 => ?_)
    ·have H := ifT hc12 H
     refine cq [] ?_
     refine T.seq fun K12 hK12 => T.region (rA rfl (RS.nil (hK12 _ _ ?_)))
     obtain rfl := hd2 _ H
     have H := HX2
     obtain rfl := sj H
     refine T.rt (Cont.ret1 rfl rfl fun w' s => ?_)
     exact ⟨rfl, s.ext⟩
    ·have H := ifF hc12 H
     refine T.skip (hK10 _ _ (cq [(0, _), (1, _), (5, _)] ?_))
     refine T.region (rM rfl ?_)
     obtain ⟨g13, H⟩ := gdE H
     refine rp (Pu.addS rfl rfl g13) (rA rfl (RS.nil (hL2 _ _ (v3 + 1) () H ⟨rfl, rfl, trivial⟩ ⟨rfl, trivial⟩ (fun w s => s))))
   ·have H := ifF hc5 H
    obtain rfl := hd2 _ H
    refine T.xt (hJ2 _ _ () () HX2 trivial trivial (fun w s => s))
theorem throngref0_CopyNumbers_walk (a0_l : List Int) (w : World) {v0 : Value} (h0 : R (hpOf w) a0_l [v0]) {r : List Int} (H : throngref0_CopyNumbers a0_l = some r) : Calls Tryz.prog 20 #[v0] w fun e w' => ∃ q1 : (Option Nat × Nat), e = .returned (rowV q1 r.length) ∧ Sat w [row nilH 3 (rowV q1 r.length) r] w' := by
 have hm0 := R_max h0
 obtain ⟨p0, c0, rfl⟩ := R_form h0
 unfold throngref0_CopyNumbers at H
 refine T.enter (args := [_]) (S := Sat w []) Tryz.func20 rfl rfl (Sat.start w) ?_
 refine T.seq fun K1 hK1 => T.region (rA rfl (RS.nil (hK1 _ _ ?_)))
 refine T.seq fun K2 hK2 => T.region (rA rfl (RS.nil (hK2 _ _ ?_)))
 refine T.seq fun K3 hK3 => T.seq fun K4 hK4 => T.region (rA rfl (RS.nil (hK4 _ _ ?_)))
 refine T.joinE (σ := List Int) (γ := (Option Nat × Nat)) H (fun s => s) [] trivial (fun v2 q3 => [(3, rowV q3 v2.length)]) (fun v2 q3 => Sat w [row nilH 3 (rowV q3 v2.length) v2]) ?_ ?_
 ·rintro v2 q3 H
  try dsimp only [Ex.then] at H
  refine Cont.conseq (fr' := [(3, _)]) ?_ ⟨rfl, trivial⟩ (fun _ s => s)
  refine id (hK3 _ _ ?_)
  refine T.seq fun K5 hK5 => T.region (rM rfl (rA rfl (RS.nil (hK5 _ _ ?_))))
  obtain rfl := sj H
  refine T.rt (Cont.ret1 rfl rfl fun w' s => ?_)
  exact ⟨q3, rfl, s.pick [0] (by decide) rfl⟩
 ·intro z1 hz1 HX1 hJ1
  refine T.block ?_
  refine T.loopA (γ := (Option Nat × Nat)) hz1 [(0, _)] (fun (l4, v6) q5 => [(3, rowV q5 l4.length), (4, .int .i64 v6)]) (fun (l4, v6) q5 => Sat w [row nilH 3 (rowV q5 l4.length) l4]) (none, 0) ⟨rfl, trivial⟩ ⟨rfl, rfl, trivial⟩ (fun w s => (s.nilRow (α := Int) 3).pick [0] (by decide) rfl) ?_
  rintro ⟨l4, v6⟩ q5 y7 H hd1 KL1 hL1
  try dsimp only [Ex.then] at H
  refine cq [(3, _), (4, _), (0, _)] ?_
  refine T.seq fun K6 hK6 => T.seq fun K7 hK7 => T.region (rM rfl (rM rfl (rp (Pu.lenSl sl23 rfl) (rp (Pu.bin rfl rfl rfl) (RS.nil (hK7 _ _ ?_))))))
  refine T.condP rfl (fun hc8 => ?_) (fun hc8 => ?_)
  ·have H := ifT hc8 H
   refine T.skip (hK6 _ _ (cq [(0, _), (3, _), (4, _)] ?_))
   refine T.seq fun K8 hK8 => T.block (T.region (rM rfl (rM rfl (rM rfl ?_))))
   obtain ⟨g9, H⟩ := gdE H
   obtain ⟨bl10, ol11, rfl⟩ := R_ptr h0 (ne_of_pos (pos_of g9))
   refine rp (Pu.indexSl sl23 rfl rfl g9) (rq (Qt.ld0 (α := Int) (Rd.base h0) ty3 rfl rfl g9 (by rintro _ _ rfl; rfl)) (RS.solid (Sd.litS (cs := [_]) sl23 zr3 rfl rfl rfl rfl rfl) rfl rfl fun b12 => ?_))
   obtain ⟨g14, H⟩ := gdE H
   refine RS.solid (Sd.app1c (α := Int) 0 1 (gi a0_l v6) rfl rfl (nilH_lt _) sl23 zr3 rfl rfl rfl rfl g14 (by decide)) rfl rfl fun q13 => rA rfl (RS.nil (hK8 _ _ (cq [(0, _), (3, _), (4, _)] ?_)))
   refine T.region (rM rfl ?_)
   obtain ⟨g15, H⟩ := gdE H
   refine rp (Pu.addS rfl rfl g15) (rA rfl (RS.nil (hL1 _ _ ((l4 ++ [(gi a0_l v6)]), (v6 + 1)) q13 H ⟨rfl, trivial⟩ ⟨rfl, rfl, trivial⟩ (fun w s => s.pick [0] (by decide) rfl))))
  ·have H := ifF hc8 H
   obtain rfl := hd1 _ H
   refine T.xt (hJ1 _ _ l4 q5 HX1 trivial ⟨rfl, trivial⟩ (fun w s => s))
theorem throngref0_EqCommand_walk (a0_a : Cmd) (a1_b : Cmd) (w : World) {v0 v1 : Value} (h0 : R (hpOf w) a0_a.units [v0]) (h1 : R (hpOf w) a1_b.units [v1]) {r : Bool} (H : throngref0_EqCommand a0_a a1_b = some r) : Calls Tryz.prog 78 #[.agg #[.int .i64 a0_a.player, .int .i64 a0_a.seq, .int .i64 a0_a.kind, .int .i64 a0_a.n, v0, .int .i64 a0_a.tile, .int .i64 a0_a.w, .int .i64 a0_a.h, .int .i64 a0_a.pos.x, .int .i64 a0_a.pos.y], .agg #[.int .i64 a1_b.player, .int .i64 a1_b.seq, .int .i64 a1_b.kind, .int .i64 a1_b.n, v1, .int .i64 a1_b.tile, .int .i64 a1_b.w, .int .i64 a1_b.h, .int .i64 a1_b.pos.x, .int .i64 a1_b.pos.y]] w fun e w' => e = .returned (.bool r) ∧ Ext w w' := by
 have hm0 := R_max h0
 obtain ⟨p0, c0, rfl⟩ := R_form h0
 have hm1 := R_max h1
 obtain ⟨p1, c1, rfl⟩ := R_form h1
 unfold throngref0_EqCommand at H
 refine T.enter (args := [_, _]) (S := Sat w []) Tryz.func78 rfl rfl (Sat.start w) ?_
 refine T.seq fun K1 hK1 => T.region (RS.solid (Sd.box (cs := [_, _, _, _, _, _, _, _, _, _]) rfl rfl) rfl rfl fun b1 => RS.solid (Sd.box (cs := [_, _, _, _, _, _, _, _, _, _]) rfl rfl) rfl rfl fun b2 => rA rfl (RS.nil (hK1 _ _ (cq [(2, _), (3, _)] ?_))))
 refine T.seq fun K2 hK2 => T.region (rp (Pu.fieldAddr fd88_0 rfl) (rq (Qt.ldB 0 ty3 rfl rfl rfl) (rp (Pu.fieldAddr fd88_0 rfl) (rq (Qt.ldB 1 ty3 rfl rfl rfl) (rp (Pu.bin rfl rfl rfl) (rM rfl ?_))))))
 refine RS.joinV 6 16 (.bool (decide ((a0_a.player = a1_b.player) ∧ (a0_a.seq = a1_b.seq)))) [(2, _), (3, _)] ⟨rfl, rfl, trivial⟩ ?_ ?_
 ·refine rM rfl ?_
  refine RS.joinV 6 23 (.bool (decide (((a0_a.player = a1_b.player) ∧ (a0_a.seq = a1_b.seq)) ∧ (a0_a.kind = a1_b.kind)))) [(2, _), (3, _)] ⟨rfl, rfl, trivial⟩ ?_ ?_
  ·refine rM rfl ?_
   refine RS.joinV 6 30 (.bool (decide ((((a0_a.player = a1_b.player) ∧ (a0_a.seq = a1_b.seq)) ∧ (a0_a.kind = a1_b.kind)) ∧ (a0_a.n = a1_b.n)))) [(2, _), (3, _)] ⟨rfl, rfl, trivial⟩ ?_ ?_
   ·refine rM rfl ?_
    refine RS.joinB H 6 37 (fun b11 => .bool b11) [(2, _), (3, _)] ⟨rfl, rfl, trivial⟩ ?_ ?_
    ·intro b11 H
     refine rM rfl ?_
     refine RS.joinV 6 44 (.bool (decide ((b11 = true) ∧ (a0_a.tile = a1_b.tile)))) [(2, _), (3, _)] ⟨rfl, rfl, trivial⟩ ?_ ?_
     ·refine rM rfl ?_
      refine RS.joinV 6 51 (.bool (decide (((b11 = true) ∧ (a0_a.tile = a1_b.tile)) ∧ (a0_a.w = a1_b.w)))) [(2, _), (3, _)] ⟨rfl, rfl, trivial⟩ ?_ ?_
      ·refine rM rfl ?_
       refine RS.joinV 6 58 (.bool (decide ((((b11 = true) ∧ (a0_a.tile = a1_b.tile)) ∧ (a0_a.w = a1_b.w)) ∧ (a0_a.h = a1_b.h)))) [(2, _), (3, _)] ⟨rfl, rfl, trivial⟩ ?_ ?_
       ·refine rM rfl ?_
        refine RS.joinV 6 65 (.bool (decide (((((b11 = true) ∧ (a0_a.tile = a1_b.tile)) ∧ (a0_a.w = a1_b.w)) ∧ (a0_a.h = a1_b.h)) ∧ (a0_a.pos = a1_b.pos)))) [] trivial ?_ ?_
        ·refine rA rfl (RS.nil (hK2 _ _ ?_))
         obtain rfl := sj H
         refine T.rt (Cont.ret1 rfl rfl fun w' s => ?_)
         exact ⟨rfl, s.ext⟩
        ·intro hJ19
         refine RS.splitP 59 rfl (fun hc18 => ?_) (fun hc18 => ?_)
         ·refine rp (Pu.fieldAddr fd88_8 rfl) (rq (Qt.ldBA (us := [_, _]) 0 ty86 rfl rfl rfl rfl) (rp (Pu.fieldAddr fd88_8 rfl) (rq (Qt.ldBA (us := [_, _]) 1 ty86 rfl rfl rfl rfl) (rp (Pu.eqSt eqt86 rfl rfl rfl (eq_Vec a0_a.pos a1_b.pos)) (rp (Pu.pickT rfl rfl) ?_)))))
          exact hJ19 _ _ ⟨dAndT hc18, trivial⟩ (fun w s => s)
         ·refine ro (ro (ro (ro (ro (rp (Pu.pickF rfl rfl) ?_)))))
          exact hJ19 _ _ ⟨dAndF hc18, trivial⟩ (fun w s => s)
       ·intro hJ17
        refine RS.splitP 52 rfl (fun hc16 => ?_) (fun hc16 => ?_)
        ·refine rp (Pu.fieldAddr fd88_7 rfl) (rq (Qt.ldB 0 ty3 rfl rfl rfl) (rp (Pu.fieldAddr fd88_7 rfl) (rq (Qt.ldB 1 ty3 rfl rfl rfl) (rp (Pu.bin rfl rfl rfl) (rp (Pu.pickT rfl rfl) ?_)))))
         exact hJ17 _ _ ⟨dAndT hc16, rfl, rfl, trivial⟩ (fun w s => s)
        ·refine ro (ro (ro (ro (ro (rp (Pu.pickF rfl rfl) ?_)))))
         exact hJ17 _ _ ⟨dAndF hc16, rfl, rfl, trivial⟩ (fun w s => s)
      ·intro hJ15
       refine RS.splitP 45 rfl (fun hc14 => ?_) (fun hc14 => ?_)
       ·refine rp (Pu.fieldAddr fd88_6 rfl) (rq (Qt.ldB 0 ty3 rfl rfl rfl) (rp (Pu.fieldAddr fd88_6 rfl) (rq (Qt.ldB 1 ty3 rfl rfl rfl) (rp (Pu.bin rfl rfl rfl) (rp (Pu.pickT rfl rfl) ?_)))))
        exact hJ15 _ _ ⟨dAndT hc14, rfl, rfl, trivial⟩ (fun w s => s)
       ·refine ro (ro (ro (ro (ro (rp (Pu.pickF rfl rfl) ?_)))))
        exact hJ15 _ _ ⟨dAndF hc14, rfl, rfl, trivial⟩ (fun w s => s)
     ·intro hJ13
      refine RS.split 38 rfl (fun hc12 => ?_) (fun hc12 => ?_)
      ·refine rp (Pu.fieldAddr fd88_5 rfl) (rq (Qt.ldB 0 ty3 rfl rfl rfl) (rp (Pu.fieldAddr fd88_5 rfl) (rq (Qt.ldB 1 ty3 rfl rfl rfl) (rp (Pu.bin rfl rfl rfl) (rp (Pu.pickT rfl rfl) ?_)))))
       exact hJ13 _ _ ⟨dAndT hc12, rfl, rfl, trivial⟩ (fun w s => s)
      ·refine ro (ro (ro (ro (ro (rp (Pu.pickF rfl rfl) ?_)))))
       exact hJ13 _ _ ⟨dAndF (bne_of hc12), rfl, rfl, trivial⟩ (fun w s => s)
    ·intro z20 H hJ10
     refine RS.splitP 31 rfl (fun hc9 => ?_) (fun hc9 => ?_)
     ·have H := ifT hc9 H
      refine rp (Pu.fieldAddr fd88_4 rfl) (rq (Qt.ldB 0 ty23 rfl rfl rfl) (rp (Pu.fieldAddr fd88_4 rfl) (rq (Qt.ldB 1 ty23 rfl rfl rfl) ?_)))
      obtain ⟨x21, hx21, H⟩ := bindE H
      refine rq (Qt.call (vs := [.slice p0 a0_a.units.length c0, .slice p1 a1_b.units.length c1]) ent71 rfl fun w s => throngref0_EqNumbers_walk a0_a.units a1_b.units w ((Rd.base h0) w s) ((Rd.base h1) w s) hx21) (rp (Pu.pickT rfl rfl) ?_)
      obtain rfl := sj H
      exact hJ10 _ _ ⟨rfl, rfl, rfl, trivial⟩ (fun w s => s)
     ·have H := ifF hc9 H
      refine ro (ro (ro (ro (ro (rp (Pu.pickF rfl rfl) ?_)))))
      obtain rfl := sj H
      exact hJ10 _ _ ⟨rfl, rfl, rfl, trivial⟩ (fun w s => s)
   ·intro hJ8
    refine RS.splitP 24 rfl (fun hc7 => ?_) (fun hc7 => ?_)
    ·refine rp (Pu.fieldAddr fd88_3 rfl) (rq (Qt.ldB 0 ty3 rfl rfl rfl) (rp (Pu.fieldAddr fd88_3 rfl) (rq (Qt.ldB 1 ty3 rfl rfl rfl) (rp (Pu.bin rfl rfl rfl) (rp (Pu.pickT rfl rfl) ?_)))))
     exact hJ8 _ _ ⟨dAndT hc7, rfl, rfl, trivial⟩ (fun w s => s)
    ·refine ro (ro (ro (ro (ro (rp (Pu.pickF rfl rfl) ?_)))))
     exact hJ8 _ _ ⟨dAndF hc7, rfl, rfl, trivial⟩ (fun w s => s)
  ·intro hJ6
   refine RS.splitP 17 rfl (fun hc5 => ?_) (fun hc5 => ?_)
   ·refine rp (Pu.fieldAddr fd88_2 rfl) (rq (Qt.ldB 0 ty3 rfl rfl rfl) (rp (Pu.fieldAddr fd88_2 rfl) (rq (Qt.ldB 1 ty3 rfl rfl rfl) (rp (Pu.bin rfl rfl rfl) (rp (Pu.pickT rfl rfl) ?_)))))
    exact hJ6 _ _ ⟨dAndT hc5, rfl, rfl, trivial⟩ (fun w s => s)
   ·refine ro (ro (ro (ro (ro (rp (Pu.pickF rfl rfl) ?_)))))
    exact hJ6 _ _ ⟨dAndF hc5, rfl, rfl, trivial⟩ (fun w s => s)
 ·intro hJ4
  refine RS.splitP 10 rfl (fun hc3 => ?_) (fun hc3 => ?_)
  ·refine rp (Pu.fieldAddr fd88_1 rfl) (rq (Qt.ldB 0 ty3 rfl rfl rfl) (rp (Pu.fieldAddr fd88_1 rfl) (rq (Qt.ldB 1 ty3 rfl rfl rfl) (rp (Pu.bin rfl rfl rfl) (rp (Pu.pickT rfl rfl) ?_)))))
   exact hJ4 _ _ ⟨dAndT hc3, rfl, rfl, trivial⟩ (fun w s => s)
  ·refine ro (ro (ro (ro (ro (rp (Pu.pickF rfl rfl) ?_)))))
   exact hJ4 _ _ ⟨dAndF hc3, rfl, rfl, trivial⟩ (fun w s => s)
theorem throngref0_CopyCommand_walk (a0_a : Cmd) (w : World) {v0 : Value} (h0 : R (hpOf w) a0_a.units [v0]) {r : Cmd} (H : throngref0_CopyCommand a0_a = some r) : Calls Tryz.prog 79 #[.agg #[.int .i64 a0_a.player, .int .i64 a0_a.seq, .int .i64 a0_a.kind, .int .i64 a0_a.n, v0, .int .i64 a0_a.tile, .int .i64 a0_a.w, .int .i64 a0_a.h, .int .i64 a0_a.pos.x, .int .i64 a0_a.pos.y]] w fun e w' => ∃ q1 : (Option Nat × Nat), e = .returned (.agg #[.int .i64 r.player, .int .i64 r.seq, .int .i64 r.kind, .int .i64 r.n, rowV q1 r.units.length, .int .i64 r.tile, .int .i64 r.w, .int .i64 r.h, .int .i64 r.pos.x, .int .i64 r.pos.y]) ∧ Sat w [row nilH 3 (rowV q1 r.units.length) r.units] w' := by
 have hm0 := R_max h0
 obtain ⟨p0, c0, rfl⟩ := R_form h0
 unfold throngref0_CopyCommand at H
 refine T.enter (args := [_]) (S := Sat w []) Tryz.func79 rfl rfl (Sat.start w) ?_
 refine T.seq fun K1 hK1 => T.region (RS.solid (Sd.box (cs := [_, _, _, _, _, _, _, _, _, _]) rfl rfl) rfl rfl fun b1 => RS.solid (Sd.alloc zr88 rfl) rfl rfl fun b2 => RS.nil (hK1 _ _ ?_))
 refine T.seq fun K2 hK2 => T.region (rq (Qt.ldBA (us := [_, _, _, _, _, _, _, _, _, _]) 0 ty88 rfl rfl rfl rfl) (RS.solid (Sd.alloc zr88 rfl) rfl rfl fun b3 => RS.solid (Sd.stB (cs' := [_, _, _, _, _, _, _, _, _, _]) 2 ty88 rfl rfl rfl rfl rfl rfl rfl rfl) rfl rfl fun _ => RS.nil (hK2 _ _ ?_)))
 refine T.seq fun K3 hK3 => T.region (rp (Pu.fieldAddr fd88_4 rfl) (rq (Qt.ldB 0 ty23 rfl rfl rfl) ?_))
 obtain ⟨x4, hx4, H⟩ := bindE H
 refine RS.solid (Sd.callN (vs := [.slice p0 a0_a.units.length c0]) ent20 rfl (fun w s => throngref0_CopyNumbers_walk a0_a.units w ((Rd.base h0) w s) hx4)) rfl rfl fun q5 => rp (Pu.fieldAddr fd88_4 rfl) (RS.solid (Sd.stB (cs' := [_, _, _, _, _, _, _, _, _, _]) 2 ty23 rfl rfl rfl rfl rfl rfl rfl rfl) rfl rfl fun _ => RS.nil (hK3 _ _ (cq [(2, _), (3, _)] ?_)))
 refine T.seq fun K4 hK4 => T.region (rq (Qt.ldBA (us := [_, _, _, _, _, _, _, _, _, _]) 2 ty88 rfl rfl rfl rfl) (RS.solid (Sd.stB (cs' := [_, _, _, _, _, _, _, _, _, _]) 1 ty88 rfl rfl rfl rfl rfl rfl rfl rfl) rfl rfl fun _ => RS.nil (hK4 _ _ ?_)))
 obtain rfl := sj H
 refine T.rt (Cont.retC 1 rfl ty88 rfl rfl rfl fun w' s => ?_)
 exact ⟨q5, rfl, s.pick [3] (by decide) rfl⟩
theorem throngref0_EqCommands_walk (a0_a : List Cmd) (a1_b : List Cmd) (w : World) {v0 v1 : Value} (h0 : R (hpOf w) a0_a [v0]) (h1 : R (hpOf w) a1_b [v1]) {r : Bool} (H : throngref0_EqCommands a0_a a1_b = some r) : Calls Tryz.prog 41 #[v0, v1] w fun e w' => e = .returned (.bool r) ∧ Ext w w' := by
 have hm0 := R_max h0
 obtain ⟨p0, c0, rfl⟩ := R_form h0
 have hm1 := R_max h1
 obtain ⟨p1, c1, rfl⟩ := R_form h1
 unfold throngref0_EqCommands at H
 refine T.enter (args := [_, _]) (S := Sat w []) Tryz.func41 rfl rfl (Sat.start w) ?_
 refine T.seq fun K1 hK1 => T.region (rA rfl (RS.nil (hK1 _ _ ?_)))
 refine T.seq fun K2 hK2 => T.seq fun K3 hK3 => T.region (rM rfl (rp (Pu.lenSl sl39 rfl) (rM rfl (rp (Pu.lenSl sl39 rfl) (rp (Pu.bin rfl rfl rfl) (RS.nil (hK3 _ _ ?_)))))))
 refine T.condP rfl (fun hc1 => ?_) (fun hc1 => ?_)
 ·have H := ifT hc1 H
  refine cq [] ?_
  refine T.seq fun K4 hK4 => T.region (rA rfl (RS.nil (hK4 _ _ ?_)))
  obtain rfl := sj H
  refine T.rt (Cont.ret1 rfl rfl fun w' s => ?_)
  exact ⟨rfl, s.ext⟩
 ·have H := ifF hc1 H
  refine T.skip (hK2 _ _ (cq [(0, _), (1, _)] ?_))
  refine T.seq fun K5 hK5 => T.seq fun K6 hK6 => T.region (rA rfl (RS.nil (hK6 _ _ ?_)))
  refine T.joinE (σ := Unit) (γ := Unit) H Ex.go [] trivial (fun _ _ => []) (fun _ _ => Sat w []) ?_ ?_
  ·rintro ⟨⟩ ⟨⟩ H
   try dsimp only [Ex.then] at H
   refine Cont.conseq (fr' := []) ?_ trivial (fun _ s => s)
   refine id (hK5 _ _ ?_)
   refine T.seq fun K7 hK7 => T.region (rA rfl (RS.nil (hK7 _ _ ?_)))
   obtain rfl := sj H
   refine T.rt (Cont.ret1 rfl rfl fun w' s => ?_)
   exact ⟨rfl, s.ext⟩
  ·intro z2 hz2 HX2 hJ2
   refine T.block ?_
   refine T.loopA (γ := Unit) hz2 [(0, _), (1, _)] (fun v3 _ => [(5, .int .i64 v3)]) (fun v3 _ => Sat w []) () ⟨rfl, rfl, trivial⟩ ⟨rfl, trivial⟩ (fun w s => s) ?_
   rintro v3 ⟨⟩ y4 H hd2 KL2 hL2
   try dsimp only [Ex.then] at H
   refine cq [(5, _), (0, _), (1, _)] ?_
   refine T.seq fun K8 hK8 => T.seq fun K9 hK9 => T.region (rM rfl (rM rfl (rp (Pu.lenSl sl39 rfl) (rp (Pu.bin rfl rfl rfl) (RS.nil (hK9 _ _ ?_))))))
   refine T.condP rfl (fun hc5 => ?_) (fun hc5 => ?_)
   ·have H := ifT hc5 H
    refine T.skip (hK8 _ _ (cq [(0, _), (1, _), (5, _)] ?_))
    refine T.seq fun K10 hK10 => T.block (T.seq fun K11 hK11 => ?_)
    refine T.drawn (fun _ => True) [(0, .pu), (1, .pu), (2, .pu), (3, .rd), (4, .pu), (5, .pu), (6, .pu), (7, .rd), (8, .rd), (9, .pu)] mixed (ClE.sat _ _) (by kernel_rfl) ?_
    refine dp rfl (Pu.move rfl) (dp rfl (Pu.move rfl) ?_)
    obtain ⟨g6, H⟩ := gdE H
    obtain ⟨bl7, ol8, rfl⟩ := R_ptr h0 (ne_of_pos (pos_of g6))
    refine dp rfl (Pu.indexSl sl39 rfl rfl g6) ?_
    obtain ⟨c9, hc10, ha11⟩ := R_el (α := Cmd) h0 g6
    obtain ⟨u12, rfl, hu12⟩ := hc10
    obtain ⟨p13, cc14, rfl⟩ := R_form hu12
    refine dq rfl (Qt.ldZ (cs := [_, _, _, _, _, _, _, _, _, _]) ty88 rfl ha11 Held.base rfl) (dp rfl (Pu.move rfl) (dp rfl (Pu.move rfl) ?_))
    obtain ⟨g15, H⟩ := gdE H
    obtain ⟨bl16, ol17, rfl⟩ := R_ptr h1 (ne_of_pos (pos_of g15))
    refine dp rfl (Pu.indexSl sl39 rfl rfl g15) ?_
    obtain ⟨c18, hc19, ha20⟩ := R_el (α := Cmd) h1 g15
    obtain ⟨u21, rfl, hu21⟩ := hc19
    obtain ⟨p22, cc23, rfl⟩ := R_form hu21
    refine dq rfl (Qt.ldZ (cs := [_, _, _, _, _, _, _, _, _, _]) ty88 rfl ha20 Held.base rfl) ?_
    obtain ⟨x24, hx24, H⟩ := bindE H
    refine dq rfl (Qt.call (vs := [.agg #[.int .i64 ((gi a0_a v3).player), .int .i64 ((gi a0_a v3).seq), .int .i64 ((gi a0_a v3).kind), .int .i64 ((gi a0_a v3).n), .slice p13 ((gi a0_a v3).units).length cc14, .int .i64 ((gi a0_a v3).tile), .int .i64 ((gi a0_a v3).w), .int .i64 ((gi a0_a v3).h), .int .i64 (((gi a0_a v3).pos).x), .int .i64 (((gi a0_a v3).pos).y)], .agg #[.int .i64 ((gi a1_b v3).player), .int .i64 ((gi a1_b v3).seq), .int .i64 ((gi a1_b v3).kind), .int .i64 ((gi a1_b v3).n), .slice p22 ((gi a1_b v3).units).length cc23, .int .i64 ((gi a1_b v3).tile), .int .i64 ((gi a1_b v3).w), .int .i64 ((gi a1_b v3).h), .int .i64 (((gi a1_b v3).pos).x), .int .i64 (((gi a1_b v3).pos).y)]]) ent78 rfl fun w s => throngref0_EqCommand_walk (gi a0_a v3) (gi a1_b v3) w ((Rd.base hu12) w s) ((Rd.base hu21) w s) hx24) (dp rfl (Pu.not rfl) (RD.nil (hK11 _ _ ?_)))
    refine T.cond rfl (fun hc25 => ?_) (fun hc25 => ?_)
    ·have H := ifT hc25 H
     refine cq [] ?_
     refine T.seq fun K12 hK12 => T.region (rA rfl (RS.nil (hK12 _ _ ?_)))
     obtain rfl := hd2 _ H
     have H := HX2
     obtain rfl := sj H
     refine T.rt (Cont.ret1 rfl rfl fun w' s => ?_)
     exact ⟨rfl, s.ext⟩
    ·have H := ifB hc25 H
     refine T.skip (hK10 _ _ (cq [(0, _), (1, _), (5, _)] ?_))
     refine T.region (rM rfl ?_)
     obtain ⟨g26, H⟩ := gdE H
     refine rp (Pu.addS rfl rfl g26) (rA rfl (RS.nil (hL2 _ _ (v3 + 1) () H ⟨rfl, rfl, trivial⟩ ⟨rfl, trivial⟩ (fun w s => s))))
   ·have H := ifF hc5 H
    obtain rfl := hd2 _ H
    refine T.xt (hJ2 _ _ () () HX2 trivial trivial (fun w s => s))
theorem throngref0_CopyCommands_walk (a0_a : List Cmd) (w : World) {v0 : Value} (h0 : R (hpOf w) a0_a [v0]) {r : List Cmd} (H : throngref0_CopyCommands a0_a = some r) : Calls Tryz.prog 45 #[v0] w fun e w' => ∃ q1 : (Option Nat × Nat), e = .returned (rowV q1 r.length) ∧ Sat w [drow 88 (rowV q1 r.length) r] w' := by
 have hm0 := R_max h0
 obtain ⟨p0, c0, rfl⟩ := R_form h0
 unfold throngref0_CopyCommands at H
 refine T.enter (args := [_]) (S := Sat w []) Tryz.func45 rfl rfl (Sat.start w) ?_
 refine T.seq fun K1 hK1 => T.region (rA rfl (RS.nil (hK1 _ _ ?_)))
 refine T.seq fun K2 hK2 => T.region (rA rfl (RS.nil (hK2 _ _ ?_)))
 refine T.seq fun K3 hK3 => T.seq fun K4 hK4 => T.region (rA rfl (RS.nil (hK4 _ _ ?_)))
 refine T.joinE (σ := List Cmd) (γ := (Option Nat × Nat)) H (fun s => s) [] trivial (fun v2 q3 => [(3, rowV q3 v2.length)]) (fun v2 q3 => Sat w [drow 88 (rowV q3 v2.length) v2]) ?_ ?_
 ·rintro v2 q3 H
  try dsimp only [Ex.then] at H
  refine Cont.conseq (fr' := [(3, _)]) ?_ ⟨rfl, trivial⟩ (fun _ s => s)
  refine id (hK3 _ _ ?_)
  refine T.seq fun K5 hK5 => T.region (rM rfl (rA rfl (RS.nil (hK5 _ _ ?_))))
  obtain rfl := sj H
  refine T.rt (Cont.ret1 rfl rfl fun w' s => ?_)
  exact ⟨q3, rfl, s.pick [0] (by decide) rfl⟩
 ·intro z1 hz1 HX1 hJ1
  refine T.block ?_
  refine T.loopA (γ := (Option Nat × Nat)) hz1 [(0, _)] (fun (l4, v6) q5 => [(3, rowV q5 l4.length), (4, .int .i64 v6)]) (fun (l4, v6) q5 => Sat w [drow 88 (rowV q5 l4.length) l4]) (none, 0) ⟨rfl, trivial⟩ ⟨rfl, rfl, trivial⟩ (fun w s => (s.nilRowG (α := Cmd) 88).pick [0] (by decide) rfl) ?_
  rintro ⟨l4, v6⟩ q5 y7 H hd1 KL1 hL1
  try dsimp only [Ex.then] at H
  refine cq [(3, _), (4, _), (0, _)] ?_
  refine T.seq fun K6 hK6 => T.seq fun K7 hK7 => T.region (rM rfl (rM rfl (rp (Pu.lenSl sl39 rfl) (rp (Pu.bin rfl rfl rfl) (RS.nil (hK7 _ _ ?_))))))
  refine T.condP rfl (fun hc8 => ?_) (fun hc8 => ?_)
  ·have H := ifT hc8 H
   refine T.skip (hK6 _ _ (cq [(0, _), (3, _), (4, _)] ?_))
   refine T.seq fun K8 hK8 => T.block (T.region (rM rfl (rM rfl (rM rfl ?_))))
   obtain ⟨g9, H⟩ := gdE H
   obtain ⟨bl10, ol11, rfl⟩ := R_ptr h0 (ne_of_pos (pos_of g9))
   refine rp (Pu.indexSl sl39 rfl rfl g9) ?_
   obtain ⟨c12, hc13, ha14⟩ := R_el (α := Cmd) h0 g9
   obtain ⟨u15, rfl, hu15⟩ := hc13
   obtain ⟨p16, cc17, rfl⟩ := R_form hu15
   refine rq (Qt.ldZ (cs := [_, _, _, _, _, _, _, _, _, _]) ty88 rfl ha14 Held.base rfl) ?_
   obtain ⟨x18, hx18, H⟩ := bindE H
   refine RS.solid (Sd.callN (vs := [.agg #[.int .i64 ((gi a0_a v6).player), .int .i64 ((gi a0_a v6).seq), .int .i64 ((gi a0_a v6).kind), .int .i64 ((gi a0_a v6).n), .slice p16 ((gi a0_a v6).units).length cc17, .int .i64 ((gi a0_a v6).tile), .int .i64 ((gi a0_a v6).w), .int .i64 ((gi a0_a v6).h), .int .i64 (((gi a0_a v6).pos).x), .int .i64 (((gi a0_a v6).pos).y)]]) ent79 rfl (fun w s => throngref0_CopyCommand_walk (gi a0_a v6) w ((Rd.base hu15) w s) hx18)) rfl rfl fun q19 => RS.solid (Sd.litS (cs := [_, _, _, _, _, _, _, _, _, _]) sl39 zr88 rfl rfl rfl rfl rfl) rfl rfl fun b20 => ?_
   obtain ⟨g22, H⟩ := gdE H
   refine RS.solid (Sd.pre (fun w s => (Sat.starAt 1 3 (Sat.starAt 1 4 ((s.noStars).noStars) rfl rfl (by decide)) rfl rfl (by decide))) (Sd.appL (α := Cmd) 0 2 1 ([x18] : List Cmd) rfl rfl rfl (DRF.cons' (α := Cmd) (x := x18) (fun _ h => ⟨_, rfl, h⟩) DRF.nil') rfl sl39 zr88 rfl rfl rfl rfl g22 (by decide))) rfl rfl fun q21 => rA rfl (RS.nil (hK8 _ _ (cq [(0, _), (3, _), (4, _)] ?_)))
   refine T.region (rM rfl ?_)
   obtain ⟨g23, H⟩ := gdE H
   refine rp (Pu.addS rfl rfl g23) (rA rfl (RS.nil (hL1 _ _ ((l4 ++ ([x18] : List Cmd)), (v6 + 1)) q21 H ⟨rfl, trivial⟩ ⟨rfl, rfl, trivial⟩ (fun w s => s.pick [0] (by decide) rfl))))
  ·have H := ifF hc8 H
   obtain rfl := hd1 _ H
   refine T.xt (hJ1 _ _ l4 q5 HX1 trivial ⟨rfl, trivial⟩ (fun w s => s))
theorem throngref0_EqInput_walk (a0_a : Inp) (a1_b : Inp) (w : World) {v0 v1 : Value} (h0 : R (hpOf w) a0_a.commands [v0]) (h1 : R (hpOf w) a1_b.commands [v1]) {r : Bool} (H : throngref0_EqInput a0_a a1_b = some r) : Calls Tryz.prog 65 #[.agg #[.int .i64 a0_a.turn, .int .i64 a0_a.player, v0], .agg #[.int .i64 a1_b.turn, .int .i64 a1_b.player, v1]] w fun e w' => e = .returned (.bool r) ∧ Ext w w' := by
 have hm0 := R_max h0
 obtain ⟨p0, c0, rfl⟩ := R_form h0
 have hm1 := R_max h1
 obtain ⟨p1, c1, rfl⟩ := R_form h1
 unfold throngref0_EqInput at H
 refine T.enter (args := [_, _]) (S := Sat w []) Tryz.func65 rfl rfl (Sat.start w) ?_
 refine T.seq fun K1 hK1 => T.region (RS.solid (Sd.box (cs := [_, _, _]) rfl rfl) rfl rfl fun b1 => RS.solid (Sd.box (cs := [_, _, _]) rfl rfl) rfl rfl fun b2 => rA rfl (RS.nil (hK1 _ _ (cq [(2, _), (3, _)] ?_))))
 refine T.seq fun K2 hK2 => T.region (rp (Pu.fieldAddr fd41_0 rfl) (rq (Qt.ldB 0 ty3 rfl rfl rfl) (rp (Pu.fieldAddr fd41_0 rfl) (rq (Qt.ldB 1 ty3 rfl rfl rfl) (rp (Pu.bin rfl rfl rfl) (rM rfl ?_))))))
 refine RS.joinV 6 16 (.bool (decide ((a0_a.turn = a1_b.turn) ∧ (a0_a.player = a1_b.player)))) [(2, _), (3, _)] ⟨rfl, rfl, trivial⟩ ?_ ?_
 ·refine rM rfl ?_
  refine RS.joinB H 6 23 (fun b7 => .bool b7) [] trivial ?_ ?_
  ·intro b7 H
   refine rA rfl (RS.nil (hK2 _ _ ?_))
   obtain rfl := sj H
   refine T.rt (Cont.ret1 rfl rfl fun w' s => ?_)
   exact ⟨rfl, s.ext⟩
  ·intro z8 H hJ6
   refine RS.splitP 17 rfl (fun hc5 => ?_) (fun hc5 => ?_)
   ·have H := ifT hc5 H
    refine rp (Pu.fieldAddr fd41_2 rfl) (rq (Qt.ldB 0 ty39 rfl rfl rfl) (rp (Pu.fieldAddr fd41_2 rfl) (rq (Qt.ldB 1 ty39 rfl rfl rfl) ?_)))
    obtain ⟨x9, hx9, H⟩ := bindE H
    refine rq (Qt.call (vs := [.slice p0 a0_a.commands.length c0, .slice p1 a1_b.commands.length c1]) ent41 rfl fun w s => throngref0_EqCommands_walk a0_a.commands a1_b.commands w ((Rd.base h0) w s) ((Rd.base h1) w s) hx9) (rp (Pu.pickT rfl rfl) ?_)
    obtain rfl := sj H
    exact hJ6 _ _ ⟨rfl, trivial⟩ (fun w s => s)
   ·have H := ifF hc5 H
    refine ro (ro (ro (ro (ro (rp (Pu.pickF rfl rfl) ?_)))))
    obtain rfl := sj H
    exact hJ6 _ _ ⟨rfl, trivial⟩ (fun w s => s)
 ·intro hJ4
  refine RS.splitP 10 rfl (fun hc3 => ?_) (fun hc3 => ?_)
  ·refine rp (Pu.fieldAddr fd41_1 rfl) (rq (Qt.ldB 0 ty3 rfl rfl rfl) (rp (Pu.fieldAddr fd41_1 rfl) (rq (Qt.ldB 1 ty3 rfl rfl rfl) (rp (Pu.bin rfl rfl rfl) (rp (Pu.pickT rfl rfl) ?_)))))
   exact hJ4 _ _ ⟨dAndT hc3, rfl, rfl, trivial⟩ (fun w s => s)
  ·refine ro (ro (ro (ro (ro (rp (Pu.pickF rfl rfl) ?_)))))
   exact hJ4 _ _ ⟨dAndF hc3, rfl, rfl, trivial⟩ (fun w s => s)
theorem throngref0_CopyInput_walk (a0_a : Inp) (w : World) {v0 : Value} (h0 : R (hpOf w) a0_a.commands [v0]) {r : Inp} (H : throngref0_CopyInput a0_a = some r) : Calls Tryz.prog 49 #[.agg #[.int .i64 a0_a.turn, .int .i64 a0_a.player, v0]] w fun e w' => ∃ q1 : (Option Nat × Nat), e = .returned (.agg #[.int .i64 r.turn, .int .i64 r.player, rowV q1 r.commands.length]) ∧ Sat w [drow 88 (rowV q1 r.commands.length) r.commands] w' := by
 have hm0 := R_max h0
 obtain ⟨p0, c0, rfl⟩ := R_form h0
 unfold throngref0_CopyInput at H
 refine T.enter (args := [_]) (S := Sat w []) Tryz.func49 rfl rfl (Sat.start w) ?_
 refine T.seq fun K1 hK1 => T.region (RS.solid (Sd.box (cs := [_, _, _]) rfl rfl) rfl rfl fun b1 => RS.solid (Sd.alloc zr41 rfl) rfl rfl fun b2 => RS.nil (hK1 _ _ ?_))
 refine T.seq fun K2 hK2 => T.region (rq (Qt.ldBA (us := [_, _, _]) 0 ty41 rfl rfl rfl rfl) (RS.solid (Sd.alloc zr41 rfl) rfl rfl fun b3 => RS.solid (Sd.stB (cs' := [_, _, _]) 2 ty41 rfl rfl rfl rfl rfl rfl rfl rfl) rfl rfl fun _ => RS.nil (hK2 _ _ ?_)))
 refine T.seq fun K3 hK3 => T.region (rp (Pu.fieldAddr fd41_2 rfl) (rq (Qt.ldB 0 ty39 rfl rfl rfl) ?_))
 obtain ⟨x4, hx4, H⟩ := bindE H
 refine RS.solid (Sd.callN (vs := [.slice p0 a0_a.commands.length c0]) ent45 rfl (fun w s => throngref0_CopyCommands_walk a0_a.commands w ((Rd.base h0) w s) hx4)) rfl rfl fun q5 => rp (Pu.fieldAddr fd41_2 rfl) (RS.solid (Sd.stB (cs' := [_, _, _]) 2 ty39 rfl rfl rfl rfl rfl rfl rfl rfl) rfl rfl fun _ => RS.nil (hK3 _ _ (cq [(2, _), (3, _)] ?_)))
 refine T.seq fun K4 hK4 => T.region (rq (Qt.ldBA (us := [_, _, _]) 2 ty41 rfl rfl rfl rfl) (RS.solid (Sd.stB (cs' := [_, _, _]) 1 ty41 rfl rfl rfl rfl rfl rfl rfl rfl) rfl rfl fun _ => RS.nil (hK4 _ _ ?_)))
 obtain rfl := sj H
 refine T.rt (Cont.retC 1 rfl ty41 rfl rfl rfl fun w' s => ?_)
 exact ⟨q5, rfl, s.pick [3] (by decide) rfl⟩
theorem throngref0_EqInputs_walk (a0_a : List Inp) (a1_b : List Inp) (w : World) {v0 v1 : Value} (h0 : R (hpOf w) a0_a [v0]) (h1 : R (hpOf w) a1_b [v1]) {r : Bool} (H : throngref0_EqInputs a0_a a1_b = some r) : Calls Tryz.prog 70 #[v0, v1] w fun e w' => e = .returned (.bool r) ∧ Ext w w' := by
 have hm0 := R_max h0
 obtain ⟨p0, c0, rfl⟩ := R_form h0
 have hm1 := R_max h1
 obtain ⟨p1, c1, rfl⟩ := R_form h1
 unfold throngref0_EqInputs at H
 refine T.enter (args := [_, _]) (S := Sat w []) Tryz.func70 rfl rfl (Sat.start w) ?_
 refine T.seq fun K1 hK1 => T.region (rA rfl (RS.nil (hK1 _ _ ?_)))
 refine T.seq fun K2 hK2 => T.seq fun K3 hK3 => T.region (rM rfl (rp (Pu.lenSl sl22 rfl) (rM rfl (rp (Pu.lenSl sl22 rfl) (rp (Pu.bin rfl rfl rfl) (RS.nil (hK3 _ _ ?_)))))))
 refine T.condP rfl (fun hc1 => ?_) (fun hc1 => ?_)
 ·have H := ifT hc1 H
  refine cq [] ?_
  refine T.seq fun K4 hK4 => T.region (rA rfl (RS.nil (hK4 _ _ ?_)))
  obtain rfl := sj H
  refine T.rt (Cont.ret1 rfl rfl fun w' s => ?_)
  exact ⟨rfl, s.ext⟩
 ·have H := ifF hc1 H
  refine T.skip (hK2 _ _ (cq [(0, _), (1, _)] ?_))
  refine T.seq fun K5 hK5 => T.seq fun K6 hK6 => T.region (rA rfl (RS.nil (hK6 _ _ ?_)))
  refine T.joinE (σ := Unit) (γ := Unit) H Ex.go [] trivial (fun _ _ => []) (fun _ _ => Sat w []) ?_ ?_
  ·rintro ⟨⟩ ⟨⟩ H
   try dsimp only [Ex.then] at H
   refine Cont.conseq (fr' := []) ?_ trivial (fun _ s => s)
   refine id (hK5 _ _ ?_)
   refine T.seq fun K7 hK7 => T.region (rA rfl (RS.nil (hK7 _ _ ?_)))
   obtain rfl := sj H
   refine T.rt (Cont.ret1 rfl rfl fun w' s => ?_)
   exact ⟨rfl, s.ext⟩
  ·intro z2 hz2 HX2 hJ2
   refine T.block ?_
   refine T.loopA (γ := Unit) hz2 [(0, _), (1, _)] (fun v3 _ => [(5, .int .i64 v3)]) (fun v3 _ => Sat w []) () ⟨rfl, rfl, trivial⟩ ⟨rfl, trivial⟩ (fun w s => s) ?_
   rintro v3 ⟨⟩ y4 H hd2 KL2 hL2
   try dsimp only [Ex.then] at H
   refine cq [(5, _), (0, _), (1, _)] ?_
   refine T.seq fun K8 hK8 => T.seq fun K9 hK9 => T.region (rM rfl (rM rfl (rp (Pu.lenSl sl22 rfl) (rp (Pu.bin rfl rfl rfl) (RS.nil (hK9 _ _ ?_))))))
   refine T.condP rfl (fun hc5 => ?_) (fun hc5 => ?_)
   ·have H := ifT hc5 H
    refine T.skip (hK8 _ _ (cq [(0, _), (1, _), (5, _)] ?_))
    refine T.seq fun K10 hK10 => T.block (T.seq fun K11 hK11 => ?_)
    refine T.drawn (fun _ => True) [(0, .pu), (1, .pu), (2, .pu), (3, .rd), (4, .pu), (5, .pu), (6, .pu), (7, .rd), (8, .rd), (9, .pu)] mixed (ClE.sat _ _) (by kernel_rfl) ?_
    refine dp rfl (Pu.move rfl) (dp rfl (Pu.move rfl) ?_)
    obtain ⟨g6, H⟩ := gdE H
    obtain ⟨bl7, ol8, rfl⟩ := R_ptr h0 (ne_of_pos (pos_of g6))
    refine dp rfl (Pu.indexSl sl22 rfl rfl g6) ?_
    obtain ⟨c9, hc10, ha11⟩ := R_el (α := Inp) h0 g6
    obtain ⟨u12, rfl, hu12⟩ := hc10
    obtain ⟨p13, cc14, rfl⟩ := R_form hu12
    refine dq rfl (Qt.ldZ (cs := [_, _, _]) ty41 rfl ha11 Held.base rfl) (dp rfl (Pu.move rfl) (dp rfl (Pu.move rfl) ?_))
    obtain ⟨g15, H⟩ := gdE H
    obtain ⟨bl16, ol17, rfl⟩ := R_ptr h1 (ne_of_pos (pos_of g15))
    refine dp rfl (Pu.indexSl sl22 rfl rfl g15) ?_
    obtain ⟨c18, hc19, ha20⟩ := R_el (α := Inp) h1 g15
    obtain ⟨u21, rfl, hu21⟩ := hc19
    obtain ⟨p22, cc23, rfl⟩ := R_form hu21
    refine dq rfl (Qt.ldZ (cs := [_, _, _]) ty41 rfl ha20 Held.base rfl) ?_
    obtain ⟨x24, hx24, H⟩ := bindE H
    refine dq rfl (Qt.call (vs := [.agg #[.int .i64 ((gi a0_a v3).turn), .int .i64 ((gi a0_a v3).player), .slice p13 ((gi a0_a v3).commands).length cc14], .agg #[.int .i64 ((gi a1_b v3).turn), .int .i64 ((gi a1_b v3).player), .slice p22 ((gi a1_b v3).commands).length cc23]]) ent65 rfl fun w s => throngref0_EqInput_walk (gi a0_a v3) (gi a1_b v3) w ((Rd.base hu12) w s) ((Rd.base hu21) w s) hx24) (dp rfl (Pu.not rfl) (RD.nil (hK11 _ _ ?_)))
    refine T.cond rfl (fun hc25 => ?_) (fun hc25 => ?_)
    ·have H := ifT hc25 H
     refine cq [] ?_
     refine T.seq fun K12 hK12 => T.region (rA rfl (RS.nil (hK12 _ _ ?_)))
     obtain rfl := hd2 _ H
     have H := HX2
     obtain rfl := sj H
     refine T.rt (Cont.ret1 rfl rfl fun w' s => ?_)
     exact ⟨rfl, s.ext⟩
    ·have H := ifB hc25 H
     refine T.skip (hK10 _ _ (cq [(0, _), (1, _), (5, _)] ?_))
     refine T.region (rM rfl ?_)
     obtain ⟨g26, H⟩ := gdE H
     refine rp (Pu.addS rfl rfl g26) (rA rfl (RS.nil (hL2 _ _ (v3 + 1) () H ⟨rfl, rfl, trivial⟩ ⟨rfl, trivial⟩ (fun w s => s))))
   ·have H := ifF hc5 H
    obtain rfl := hd2 _ H
    refine T.xt (hJ2 _ _ () () HX2 trivial trivial (fun w s => s))
theorem throngref0_CopyInputs_walk (a0_a : List Inp) (w : World) {v0 : Value} (h0 : R (hpOf w) a0_a [v0]) {r : List Inp} (H : throngref0_CopyInputs a0_a = some r) : Calls Tryz.prog 19 #[v0] w fun e w' => ∃ q1 : (Option Nat × Nat), e = .returned (rowV q1 r.length) ∧ Sat w [drow 41 (rowV q1 r.length) r] w' := by
 have hm0 := R_max h0
 obtain ⟨p0, c0, rfl⟩ := R_form h0
 unfold throngref0_CopyInputs at H
 refine T.enter (args := [_]) (S := Sat w []) Tryz.func19 rfl rfl (Sat.start w) ?_
 refine T.seq fun K1 hK1 => T.region (rA rfl (RS.nil (hK1 _ _ ?_)))
 refine T.seq fun K2 hK2 => T.region (rA rfl (RS.nil (hK2 _ _ ?_)))
 refine T.seq fun K3 hK3 => T.seq fun K4 hK4 => T.region (rA rfl (RS.nil (hK4 _ _ ?_)))
 refine T.joinE (σ := List Inp) (γ := (Option Nat × Nat)) H (fun s => s) [] trivial (fun v2 q3 => [(3, rowV q3 v2.length)]) (fun v2 q3 => Sat w [drow 41 (rowV q3 v2.length) v2]) ?_ ?_
 ·rintro v2 q3 H
  try dsimp only [Ex.then] at H
  refine Cont.conseq (fr' := [(3, _)]) ?_ ⟨rfl, trivial⟩ (fun _ s => s)
  refine id (hK3 _ _ ?_)
  refine T.seq fun K5 hK5 => T.region (rM rfl (rA rfl (RS.nil (hK5 _ _ ?_))))
  obtain rfl := sj H
  refine T.rt (Cont.ret1 rfl rfl fun w' s => ?_)
  exact ⟨q3, rfl, s.pick [0] (by decide) rfl⟩
 ·intro z1 hz1 HX1 hJ1
  refine T.block ?_
  refine T.loopA (γ := (Option Nat × Nat)) hz1 [(0, _)] (fun (l4, v6) q5 => [(3, rowV q5 l4.length), (4, .int .i64 v6)]) (fun (l4, v6) q5 => Sat w [drow 41 (rowV q5 l4.length) l4]) (none, 0) ⟨rfl, trivial⟩ ⟨rfl, rfl, trivial⟩ (fun w s => (s.nilRowG (α := Inp) 41).pick [0] (by decide) rfl) ?_
  rintro ⟨l4, v6⟩ q5 y7 H hd1 KL1 hL1
  try dsimp only [Ex.then] at H
  refine cq [(3, _), (4, _), (0, _)] ?_
  refine T.seq fun K6 hK6 => T.seq fun K7 hK7 => T.region (rM rfl (rM rfl (rp (Pu.lenSl sl22 rfl) (rp (Pu.bin rfl rfl rfl) (RS.nil (hK7 _ _ ?_))))))
  refine T.condP rfl (fun hc8 => ?_) (fun hc8 => ?_)
  ·have H := ifT hc8 H
   refine T.skip (hK6 _ _ (cq [(0, _), (3, _), (4, _)] ?_))
   refine T.seq fun K8 hK8 => T.block (T.region (rM rfl (rM rfl (rM rfl ?_))))
   obtain ⟨g9, H⟩ := gdE H
   obtain ⟨bl10, ol11, rfl⟩ := R_ptr h0 (ne_of_pos (pos_of g9))
   refine rp (Pu.indexSl sl22 rfl rfl g9) ?_
   obtain ⟨c12, hc13, ha14⟩ := R_el (α := Inp) h0 g9
   obtain ⟨u15, rfl, hu15⟩ := hc13
   obtain ⟨p16, cc17, rfl⟩ := R_form hu15
   refine rq (Qt.ldZ (cs := [_, _, _]) ty41 rfl ha14 Held.base rfl) ?_
   obtain ⟨x18, hx18, H⟩ := bindE H
   refine RS.solid (Sd.callN (vs := [.agg #[.int .i64 ((gi a0_a v6).turn), .int .i64 ((gi a0_a v6).player), .slice p16 ((gi a0_a v6).commands).length cc17]]) ent49 rfl (fun w s => throngref0_CopyInput_walk (gi a0_a v6) w ((Rd.base hu15) w s) hx18)) rfl rfl fun q19 => RS.solid (Sd.litS (cs := [_, _, _]) sl22 zr41 rfl rfl rfl rfl rfl) rfl rfl fun b20 => ?_
   obtain ⟨g22, H⟩ := gdE H
   refine RS.solid (Sd.pre (fun w s => (Sat.starAt 1 3 (Sat.starAt 1 4 ((s.noStars).noStars) rfl rfl (by decide)) rfl rfl (by decide))) (Sd.appL (α := Inp) 0 2 1 ([x18] : List Inp) rfl rfl rfl (DRF.cons' (α := Inp) (x := x18) (fun _ h => ⟨_, rfl, h⟩) DRF.nil') rfl sl22 zr41 rfl rfl rfl rfl g22 (by decide))) rfl rfl fun q21 => rA rfl (RS.nil (hK8 _ _ (cq [(0, _), (3, _), (4, _)] ?_)))
   refine T.region (rM rfl ?_)
   obtain ⟨g23, H⟩ := gdE H
   refine rp (Pu.addS rfl rfl g23) (rA rfl (RS.nil (hL1 _ _ ((l4 ++ ([x18] : List Inp)), (v6 + 1)) q21 H ⟨rfl, trivial⟩ ⟨rfl, rfl, trivial⟩ (fun w s => s.pick [0] (by decide) rfl))))
  ·have H := ifF hc8 H
   obtain rfl := hd1 _ H
   refine T.xt (hJ1 _ _ l4 q5 HX1 trivial ⟨rfl, trivial⟩ (fun w s => s))
theorem throngref0_Num_walk (a0_n : Int) (a1_most : Int) (w : World) {r : Bool} (H : throngref0_Num a0_n a1_most = some r) : Calls Tryz.prog 22 #[.int .i64 a0_n, .int .i64 a1_most] w fun e w' => e = .returned (.bool r) ∧ Ext w w' := by
 unfold throngref0_Num at H
 refine T.enter (args := [_, _]) (S := Sat w []) Tryz.func22 rfl rfl (Sat.start w) ?_
 refine T.seq fun K1 hK1 => T.region (rA rfl (RS.nil (hK1 _ _ ?_)))
 refine T.seq fun K2 hK2 => T.region (rM rfl (rp (Pu.bin rfl rfl rfl) (rM rfl ?_)))
 refine RS.joinV 4 11 (.bool (decide ((0 ≤ a0_n) ∧ (a0_n ≤ a1_most)))) [(4, _)] ⟨rfl, trivial⟩ ?_ ?_
 ·refine rA rfl (RS.nil (hK2 _ _ ?_))
  obtain rfl := sj H
  refine T.rt (Cont.ret1 rfl rfl fun w' s => ?_)
  exact ⟨rfl, s.ext⟩
 ·intro hJ2
  refine RS.splitP 7 rfl (fun hc1 => ?_) (fun hc1 => ?_)
  ·refine rM rfl (rM rfl (rp (Pu.bin rfl rfl rfl) (rp (Pu.pickT rfl rfl) ?_)))
   exact hJ2 _ _ ⟨dAndT hc1, rfl, trivial⟩ (fun w s => s)
  ·refine ro (ro (ro (rp (Pu.pickF rfl rfl) ?_)))
   exact hJ2 _ _ ⟨dAndF hc1, rfl, trivial⟩ (fun w s => s)
theorem throngref0_Rising_walk (a0_l : List Int) (w : World) {v0 : Value} (h0 : R (hpOf w) a0_l [v0]) {r : Bool} (H : throngref0_Rising a0_l = some r) : Calls Tryz.prog 112 #[v0] w fun e w' => e = .returned (.bool r) ∧ Ext w w' := by
 have hm0 := R_max h0
 obtain ⟨p0, c0, rfl⟩ := R_form h0
 unfold throngref0_Rising at H
 refine T.enter (args := [_]) (S := Sat w []) Tryz.func112 rfl rfl (Sat.start w) ?_
 refine T.seq fun K1 hK1 => T.region (rA rfl (RS.nil (hK1 _ _ ?_)))
 refine T.seq fun K2 hK2 => T.seq fun K3 hK3 => T.region (rA rfl (RS.nil (hK3 _ _ ?_)))
 refine T.joinE (σ := Unit) (γ := Unit) H Ex.go [] trivial (fun _ _ => []) (fun _ _ => Sat w []) ?_ ?_
 ·rintro ⟨⟩ ⟨⟩ H
  try dsimp only [Ex.then] at H
  refine Cont.conseq (fr' := []) ?_ trivial (fun _ s => s)
  refine id (hK2 _ _ ?_)
  refine T.seq fun K4 hK4 => T.region (rA rfl (RS.nil (hK4 _ _ ?_)))
  obtain rfl := sj H
  refine T.rt (Cont.ret1 rfl rfl fun w' s => ?_)
  exact ⟨rfl, s.ext⟩
 ·intro z1 hz1 HX1 hJ1
  refine T.block ?_
  refine T.loopA (γ := Unit) hz1 [(0, _)] (fun v2 _ => [(3, .int .i64 v2)]) (fun v2 _ => Sat w []) () ⟨rfl, trivial⟩ ⟨rfl, trivial⟩ (fun w s => s) ?_
  rintro v2 ⟨⟩ y3 H hd1 KL1 hL1
  try dsimp only [Ex.then] at H
  refine cq [(3, _), (0, _)] ?_
  refine T.seq fun K5 hK5 => T.seq fun K6 hK6 => T.region (rM rfl (rM rfl (rp (Pu.lenSl sl23 rfl) (rp (Pu.bin rfl rfl rfl) (RS.nil (hK6 _ _ ?_))))))
  refine T.condP rfl (fun hc4 => ?_) (fun hc4 => ?_)
  ·have H := ifT hc4 H
   refine T.skip (hK5 _ _ (cq [(0, _), (3, _)] ?_))
   refine T.seq fun K7 hK7 => T.block (T.seq fun K8 hK8 => ?_)
   refine T.drawn (fun _ => True) [(0, .pu), (1, .pu), (2, .pu), (3, .rd), (4, .pu), (5, .pu), (6, .pu), (7, .pu), (8, .rd), (9, .pu)] mixed (ClE.sat _ _) (by kernel_rfl) ?_
   refine dp rfl (Pu.move rfl) (dp rfl (Pu.move rfl) ?_)
   obtain ⟨g5, H⟩ := gdE H
   obtain ⟨bl6, ol7, rfl⟩ := R_ptr h0 (ne_of_pos (pos_of g5))
   refine dp rfl (Pu.indexSl sl23 rfl rfl g5) (dq rfl (Qt.ld0 (α := Int) (Rd.base h0) ty3 rfl rfl g5 (by rintro _ _ rfl; rfl)) (dp rfl (Pu.move rfl) (dp rfl (Pu.move rfl) ?_)))
   obtain ⟨g8, H⟩ := gdE H
   refine dp rfl (Pu.subS rfl rfl g8) ?_
   obtain ⟨g9, H⟩ := gdE H
   refine dp rfl (Pu.indexSl sl23 rfl rfl g9) (dq rfl (Qt.ld0 (α := Int) (Rd.base h0) ty3 rfl rfl g9 (by rintro _ _ rfl; rfl)) (dp rfl (Pu.bin rfl rfl rfl) (RD.nil (hK8 _ _ ?_))))
   refine T.condP rfl (fun hc10 => ?_) (fun hc10 => ?_)
   ·have H := ifT hc10 H
    refine cq [] ?_
    refine T.seq fun K9 hK9 => T.region (rA rfl (RS.nil (hK9 _ _ ?_)))
    obtain rfl := hd1 _ H
    have H := HX1
    obtain rfl := sj H
    refine T.rt (Cont.ret1 rfl rfl fun w' s => ?_)
    exact ⟨rfl, s.ext⟩
   ·have H := ifF hc10 H
    refine T.skip (hK7 _ _ (cq [(0, _), (3, _)] ?_))
    refine T.region (rM rfl ?_)
    obtain ⟨g11, H⟩ := gdE H
    refine rp (Pu.addS rfl rfl g11) (rA rfl (RS.nil (hL1 _ _ (v2 + 1) () H ⟨rfl, trivial⟩ ⟨rfl, trivial⟩ (fun w s => s))))
  ·have H := ifF hc4 H
   obtain rfl := hd1 _ H
   refine T.xt (hJ1 _ _ () () HX1 trivial trivial (fun w s => s))
theorem throngref0_Between_walk (a0_l : List Int) (a1_from : Int) (a2_to : Int) (w : World) {v0 : Value} (h0 : R (hpOf w) a0_l [v0]) {r : Bool} (H : throngref0_Between a0_l a1_from a2_to = some r) : Calls Tryz.prog 24 #[v0, .int .i64 a1_from, .int .i64 a2_to] w fun e w' => e = .returned (.bool r) ∧ Ext w w' := by
 have hm0 := R_max h0
 obtain ⟨p0, c0, rfl⟩ := R_form h0
 unfold throngref0_Between at H
 refine T.enter (args := [_, _, _]) (S := Sat w []) Tryz.func24 rfl rfl (Sat.start w) ?_
 refine T.seq fun K1 hK1 => T.region (rA rfl (RS.nil (hK1 _ _ ?_)))
 refine T.seq fun K2 hK2 => T.seq fun K3 hK3 => T.region (rA rfl (RS.nil (hK3 _ _ ?_)))
 refine T.joinE (σ := Unit) (γ := Unit) H Ex.go [] trivial (fun _ _ => []) (fun _ _ => Sat w []) ?_ ?_
 ·rintro ⟨⟩ ⟨⟩ H
  try dsimp only [Ex.then] at H
  refine Cont.conseq (fr' := []) ?_ trivial (fun _ s => s)
  refine id (hK2 _ _ ?_)
  refine T.seq fun K4 hK4 => T.region (rA rfl (RS.nil (hK4 _ _ ?_)))
  obtain rfl := sj H
  refine T.rt (Cont.ret1 rfl rfl fun w' s => ?_)
  exact ⟨rfl, s.ext⟩
 ·intro z1 hz1 HX1 hJ1
  refine T.block ?_
  refine T.loopA (γ := Unit) hz1 [(0, _), (1, _), (2, _)] (fun v2 _ => [(7, .int .i64 v2)]) (fun v2 _ => Sat w []) () ⟨rfl, rfl, rfl, trivial⟩ ⟨rfl, trivial⟩ (fun w s => s) ?_
  rintro v2 ⟨⟩ y3 H hd1 KL1 hL1
  try dsimp only [Ex.then] at H
  refine cq [(7, _), (0, _), (1, _), (2, _)] ?_
  refine T.seq fun K5 hK5 => T.seq fun K6 hK6 => T.region (rM rfl (rM rfl (rp (Pu.lenSl sl23 rfl) (rp (Pu.bin rfl rfl rfl) (RS.nil (hK6 _ _ ?_))))))
  refine T.condP rfl (fun hc4 => ?_) (fun hc4 => ?_)
  ·have H := ifT hc4 H
   refine T.skip (hK5 _ _ (cq [(0, _), (1, _), (2, _), (7, _)] ?_))
   refine T.seq fun K7 hK7 => T.block (T.seq fun K8 hK8 => T.region (rM rfl (rM rfl ?_)))
   obtain ⟨g5, H⟩ := gdE H
   obtain ⟨bl6, ol7, rfl⟩ := R_ptr h0 (ne_of_pos (pos_of g5))
   refine rp (Pu.indexSl sl23 rfl rfl g5) (rq (Qt.ld0 (α := Int) (Rd.base h0) ty3 rfl rfl g5 (by rintro _ _ rfl; rfl)) (rM rfl (rp (Pu.bin rfl rfl rfl) (rM rfl ?_))))
   obtain ⟨g10, H⟩ := gdE H
   refine RS.joinV 7 27 (.bool (decide (((gi a0_l v2) < a1_from) ∨ (a2_to < (gi a0_l v2))))) [(0, _), (1, _), (2, _), (7, _)] ⟨rfl, rfl, rfl, rfl, trivial⟩ ?_ ?_
   ·refine RS.nil (hK8 _ _ ?_)
    refine T.condP rfl (fun hc11 => ?_) (fun hc11 => ?_)
    ·have H := ifT hc11 H
     refine cq [] ?_
     refine T.seq fun K9 hK9 => T.region (rA rfl (RS.nil (hK9 _ _ ?_)))
     obtain rfl := hd1 _ H
     have H := HX1
     obtain rfl := sj H
     refine T.rt (Cont.ret1 rfl rfl fun w' s => ?_)
     exact ⟨rfl, s.ext⟩
    ·have H := ifF hc11 H
     refine T.skip (hK7 _ _ ?_)
     refine T.region (rM rfl ?_)
     obtain ⟨g12, H⟩ := gdE H
     refine rp (Pu.addS rfl rfl g12) (rA rfl (RS.nil (hL1 _ _ (v2 + 1) () H ⟨rfl, rfl, rfl, trivial⟩ ⟨rfl, trivial⟩ (fun w s => s))))
   ·intro hJ9
    refine RS.splitP 20 rfl (fun hc8 => ?_) (fun hc8 => ?_)
    ·refine ro (ro (ro (ro (ro (ro (rp (Pu.pickT rfl rfl) ?_))))))
     exact hJ9 _ _ ⟨dOrT hc8, rfl, rfl, rfl, rfl, trivial⟩ (fun w s => s)
    ·refine rM rfl (rM rfl (rp (Pu.indexSl sl23 rfl rfl (g10 hc8)) (rq (Qt.ld0 (α := Int) (Rd.base h0) ty3 rfl rfl (g10 hc8) (by rintro _ _ rfl; rfl)) (rM rfl (rp (Pu.bin rfl rfl rfl) (rp (Pu.pickF rfl rfl) ?_))))))
     exact hJ9 _ _ ⟨dOrF hc8, rfl, rfl, rfl, rfl, trivial⟩ (fun w s => s)
  ·have H := ifF hc4 H
   obtain rfl := hd1 _ H
   refine T.xt (hJ1 _ _ () () HX1 trivial trivial (fun w s => s))
theorem thronglaw0_Within_walk (a0_i : Int) (a1_n : Int) (w : World) {r : Int} (H : thronglaw0_Within a0_i a1_n = some r) : Calls Tryz.prog 27 #[.int .i64 a0_i, .int .i64 a1_n] w fun e w' => e = .returned (.int .i64 r) ∧ Ext w w' := by
 unfold thronglaw0_Within at H
 refine T.enter (args := [_, _]) (S := Sat w []) Tryz.func27 rfl rfl (Sat.start w) ?_
 refine T.seq fun K1 hK1 => T.region (rA rfl (RS.nil (hK1 _ _ ?_)))
 refine T.seq fun K2 hK2 => T.region (rM rfl (rp (Pu.convUW us3 ul93 rfl) (rM rfl (rp (Pu.convUW us3 ul93 rfl) ?_))))
 obtain ⟨g1, H⟩ := gdE H
 refine rp (Pu.remN rfl rfl g1) ?_
 obtain ⟨g2, H⟩ := gdE H
 refine rp (Pu.convS us93 ul3 rfl g2) (rA rfl (RS.nil (hK2 _ _ (cq [(4, _)] ?_))))
 obtain rfl := sj H
 refine T.rt (Cont.ret1 rfl rfl fun w' s => ?_)
 exact ⟨rfl, s.ext⟩
theorem thronglaw0_CommandsWeight_walk (a0_l : List Cmd) (w : World) {v0 : Value} (h0 : R (hpOf w) a0_l [v0]) {r : Int} (H : thronglaw0_CommandsWeight a0_l = some r) : Calls Tryz.prog 18 #[v0] w fun e w' => e = .returned (.int .i64 r) ∧ Ext w w' := by
 have hm0 := R_max h0
 obtain ⟨p0, c0, rfl⟩ := R_form h0
 unfold thronglaw0_CommandsWeight at H
 refine T.enter (args := [_]) (S := Sat w []) Tryz.func18 rfl rfl (Sat.start w) ?_
 refine T.seq fun K1 hK1 => T.region (rA rfl (RS.nil (hK1 _ _ ?_)))
 refine T.seq fun K2 hK2 => T.region (rM rfl (rp (Pu.lenSl sl39 rfl) (rA rfl (RS.nil (hK2 _ _ (cq [(0, _), (3, _)] ?_))))))
 refine T.seq fun K3 hK3 => T.seq fun K4 hK4 => T.region (rA rfl (RS.nil (hK4 _ _ ?_)))
 refine T.joinE (σ := Int) (γ := Unit) H (fun s => s) [] trivial (fun v2 _ => [(3, .int .i64 v2)]) (fun v2 _ => Sat w []) ?_ ?_
 ·rintro v2 ⟨⟩ H
  try dsimp only [Ex.then] at H
  refine Cont.conseq (fr' := [(3, _)]) ?_ ⟨rfl, trivial⟩ (fun _ s => s)
  refine id (hK3 _ _ ?_)
  refine T.seq fun K5 hK5 => T.region (rM rfl (rA rfl (RS.nil (hK5 _ _ ?_))))
  obtain rfl := sj H
  refine T.rt (Cont.ret1 rfl rfl fun w' s => ?_)
  exact ⟨rfl, s.ext⟩
 ·intro z1 hz1 HX1 hJ1
  refine T.block ?_
  refine T.loopA (γ := Unit) hz1 [(0, _)] (fun (v3, v4) _ => [(3, .int .i64 v3), (4, .int .i64 v4)]) (fun (v3, v4) _ => Sat w []) () ⟨rfl, trivial⟩ ⟨rfl, rfl, trivial⟩ (fun w s => s) ?_
  rintro ⟨v3, v4⟩ ⟨⟩ y5 H hd1 KL1 hL1
  try dsimp only [Ex.then] at H
  refine cq [(3, _), (4, _), (0, _)] ?_
  refine T.seq fun K6 hK6 => T.seq fun K7 hK7 => T.region (rM rfl (rM rfl (rp (Pu.lenSl sl39 rfl) (rp (Pu.bin rfl rfl rfl) (rM rfl ?_)))))
  refine RS.joinV 3 14 (.bool (decide ((v4 < (a0_l.length : Int)) ∧ (v3 < 1048576)))) [(0, _), (3, _), (4, _)] ⟨rfl, rfl, rfl, trivial⟩ ?_ ?_
  ·refine RS.nil (hK7 _ _ ?_)
   refine T.condP rfl (fun hc8 => ?_) (fun hc8 => ?_)
   ·have H := ifT hc8 H
    refine T.skip (hK6 _ _ ?_)
    refine T.seq fun K8 hK8 => T.block (T.region (rM rfl (rM rfl (rM rfl ?_))))
    obtain ⟨g9, H⟩ := gdE H
    obtain ⟨bl10, ol11, rfl⟩ := R_ptr h0 (ne_of_pos (pos_of g9))
    refine rp (Pu.indexSl sl39 rfl rfl g9) (rp (Pu.fieldAddr fd88_4 rfl) ?_)
    obtain ⟨c12, hc13, ha14⟩ := R_el (α := Cmd) h0 g9
    obtain ⟨u15, rfl, hu15⟩ := hc13
    obtain ⟨p16, cc17, rfl⟩ := R_form hu15
    refine rq (Qt.ldZ1 (f := 4) (cs := [_, _, _, _, _, _, _, _, _, _]) ty23 rfl ha14 Held.base rfl) (rp (Pu.lenSl sl23 rfl) ?_)
    obtain ⟨g18, H⟩ := gdE H
    refine rp (Pu.addS rfl rfl g18) (rA rfl (RS.nil (hK8 _ _ (cq [(0, _), (3, _), (4, _)] ?_))))
    refine T.region (rM rfl ?_)
    obtain ⟨g19, H⟩ := gdE H
    refine rp (Pu.addS rfl rfl g19) (rA rfl (RS.nil (hL1 _ _ ((v3 + (((gi a0_l v4).units).length : Int)), (v4 + 1)) () H ⟨rfl, trivial⟩ ⟨rfl, rfl, trivial⟩ (fun w s => s))))
   ·have H := ifF hc8 H
    obtain rfl := hd1 _ H
    refine T.xt (hJ1 _ _ v3 () HX1 trivial ⟨rfl, trivial⟩ (fun w s => s))
  ·intro hJ7
   refine RS.splitP 11 rfl (fun hc6 => ?_) (fun hc6 => ?_)
   ·refine rM rfl (rp (Pu.bin rfl rfl rfl) (rp (Pu.pickT rfl rfl) ?_))
    exact hJ7 _ _ ⟨dAndT hc6, rfl, rfl, rfl, trivial⟩ (fun w s => s)
   ·refine ro (ro (rp (Pu.pickF rfl rfl) ?_))
    exact hJ7 _ _ ⟨dAndF hc6, rfl, rfl, rfl, trivial⟩ (fun w s => s)
theorem thronglaw0_InputsWeight_walk (a0_l : List Inp) (w : World) {v0 : Value} (h0 : R (hpOf w) a0_l [v0]) {r : Int} (H : thronglaw0_InputsWeight a0_l = some r) : Calls Tryz.prog 17 #[v0] w fun e w' => e = .returned (.int .i64 r) ∧ Ext w w' := by
 have hm0 := R_max h0
 obtain ⟨p0, c0, rfl⟩ := R_form h0
 unfold thronglaw0_InputsWeight at H
 refine T.enter (args := [_]) (S := Sat w []) Tryz.func17 rfl rfl (Sat.start w) ?_
 refine T.seq fun K1 hK1 => T.region (rA rfl (RS.nil (hK1 _ _ ?_)))
 refine T.seq fun K2 hK2 => T.region (rM rfl (rp (Pu.lenSl sl22 rfl) (rA rfl (RS.nil (hK2 _ _ (cq [(0, _), (3, _)] ?_))))))
 refine T.seq fun K3 hK3 => T.seq fun K4 hK4 => T.region (rA rfl (RS.nil (hK4 _ _ ?_)))
 refine T.joinE (σ := Int) (γ := Unit) H (fun s => s) [] trivial (fun v2 _ => [(3, .int .i64 v2)]) (fun v2 _ => Sat w []) ?_ ?_
 ·rintro v2 ⟨⟩ H
  try dsimp only [Ex.then] at H
  refine Cont.conseq (fr' := [(3, _)]) ?_ ⟨rfl, trivial⟩ (fun _ s => s)
  refine id (hK3 _ _ ?_)
  refine T.seq fun K5 hK5 => T.region (rM rfl (rA rfl (RS.nil (hK5 _ _ ?_))))
  obtain rfl := sj H
  refine T.rt (Cont.ret1 rfl rfl fun w' s => ?_)
  exact ⟨rfl, s.ext⟩
 ·intro z1 hz1 HX1 hJ1
  refine T.block ?_
  refine T.loopA (γ := Unit) hz1 [(0, _)] (fun (v3, v4) _ => [(3, .int .i64 v3), (4, .int .i64 v4)]) (fun (v3, v4) _ => Sat w []) () ⟨rfl, trivial⟩ ⟨rfl, rfl, trivial⟩ (fun w s => s) ?_
  rintro ⟨v3, v4⟩ ⟨⟩ y5 H hd1 KL1 hL1
  try dsimp only [Ex.then] at H
  refine cq [(3, _), (4, _), (0, _)] ?_
  refine T.seq fun K6 hK6 => T.seq fun K7 hK7 => T.region (rM rfl (rM rfl (rp (Pu.lenSl sl22 rfl) (rp (Pu.bin rfl rfl rfl) (rM rfl ?_)))))
  refine RS.joinV 3 14 (.bool (decide ((v4 < (a0_l.length : Int)) ∧ (v3 < 1048576)))) [(0, _), (3, _), (4, _)] ⟨rfl, rfl, rfl, trivial⟩ ?_ ?_
  ·refine RS.nil (hK7 _ _ ?_)
   refine T.condP rfl (fun hc8 => ?_) (fun hc8 => ?_)
   ·have H := ifT hc8 H
    refine T.skip (hK6 _ _ ?_)
    refine T.seq fun K8 hK8 => T.block (T.region (rM rfl (rM rfl (rM rfl ?_))))
    obtain ⟨g9, H⟩ := gdE H
    obtain ⟨bl10, ol11, rfl⟩ := R_ptr h0 (ne_of_pos (pos_of g9))
    refine rp (Pu.indexSl sl22 rfl rfl g9) (rp (Pu.fieldAddr fd41_2 rfl) ?_)
    obtain ⟨c12, hc13, ha14⟩ := R_el (α := Inp) h0 g9
    obtain ⟨u15, rfl, hu15⟩ := hc13
    obtain ⟨p16, cc17, rfl⟩ := R_form hu15
    refine rq (Qt.ldZ1 (f := 2) (cs := [_, _, _]) ty39 rfl ha14 Held.base rfl) ?_
    obtain ⟨x18, hx18, H⟩ := bindE H
    refine rq (Qt.call (vs := [.slice p16 ((gi a0_l v4).commands).length cc17]) ent18 rfl fun w s => thronglaw0_CommandsWeight_walk ((gi a0_l v4).commands) w ((Rd.base hu15) w s) hx18) ?_
    obtain ⟨g19, H⟩ := gdE H
    refine rp (Pu.addS rfl rfl g19) (rA rfl (RS.nil (hK8 _ _ (cq [(0, _), (3, _), (4, _)] ?_))))
    refine T.region (rM rfl ?_)
    obtain ⟨g20, H⟩ := gdE H
    refine rp (Pu.addS rfl rfl g20) (rA rfl (RS.nil (hL1 _ _ ((v3 + x18), (v4 + 1)) () H ⟨rfl, trivial⟩ ⟨rfl, rfl, trivial⟩ (fun w s => s))))
   ·have H := ifF hc8 H
    obtain rfl := hd1 _ H
    refine T.xt (hJ1 _ _ v3 () HX1 trivial ⟨rfl, trivial⟩ (fun w s => s))
  ·intro hJ7
   refine RS.splitP 11 rfl (fun hc6 => ?_) (fun hc6 => ?_)
   ·refine rM rfl (rp (Pu.bin rfl rfl rfl) (rp (Pu.pickT rfl rfl) ?_))
    exact hJ7 _ _ ⟨dAndT hc6, rfl, rfl, rfl, trivial⟩ (fun w s => s)
   ·refine ro (ro (rp (Pu.pickF rfl rfl) ?_))
    exact hJ7 _ _ ⟨dAndF hc6, rfl, rfl, rfl, trivial⟩ (fun w s => s)
theorem kind_May_walk (a0_k : Int) (w : World) {r : Bool} (H : kind_May a0_k = some r) : Calls Tryz.prog 115 #[.int .i64 a0_k] w fun e w' => e = .returned (.bool r) ∧ Ext w w' := by
 unfold kind_May at H
 refine T.enter (args := [_]) (S := Sat w []) Tryz.func115 rfl rfl (Sat.start w) ?_
 refine T.seq fun K1 hK1 => T.region (rA rfl (RS.nil (hK1 _ _ ?_)))
 refine T.seq fun K2 hK2 => T.region (rM rfl (rp (Pu.bin rfl rfl rfl) (rM rfl ?_)))
 refine RS.joinV 3 8 (.bool (decide ((0 ≤ a0_k) ∧ (a0_k < 4)))) [(2, _)] ⟨rfl, trivial⟩ ?_ ?_
 ·refine rA rfl (RS.nil (hK2 _ _ ?_))
  obtain rfl := sj H
  refine T.rt (Cont.ret1 rfl rfl fun w' s => ?_)
  exact ⟨rfl, s.ext⟩
 ·intro hJ2
  refine RS.splitP 5 rfl (fun hc1 => ?_) (fun hc1 => ?_)
  ·refine rM rfl (rp (Pu.bin rfl rfl rfl) (rp (Pu.pickT rfl rfl) ?_))
   exact hJ2 _ _ ⟨dAndT hc1, rfl, trivial⟩ (fun w s => s)
  ·refine ro (ro (rp (Pu.pickF rfl rfl) ?_))
   exact hJ2 _ _ ⟨dAndF hc1, rfl, trivial⟩ (fun w s => s)
theorem disc_Place_walk (a0_p : Vec) (w : World) {r : Bool} (H : disc_Place a0_p = some r) : Calls Tryz.prog 116 #[.agg #[.int .i64 a0_p.x, .int .i64 a0_p.y]] w fun e w' => e = .returned (.bool r) ∧ Ext w w' := by
 unfold disc_Place at H
 refine T.enter (args := [_]) (S := Sat w []) Tryz.func116 rfl rfl (Sat.start w) ?_
 refine T.seq fun K1 hK1 => T.region (RS.solid (Sd.box (cs := [_, _]) rfl rfl) rfl rfl fun b1 => rA rfl (RS.nil (hK1 _ _ ?_)))
 refine T.seq fun K2 hK2 => T.region (rp (Pu.fieldAddr fd86_0 rfl) (rq (Qt.ldB 0 ty2 rfl rfl rfl) (rp (Pu.bin rfl rfl rfl) (rM rfl ?_))))
 refine RS.joinV 4 10 (.bool (decide (((-1099511627776) ≤ a0_p.x) ∧ (a0_p.x ≤ 1099511627776)))) [(1, _), (2, _)] ⟨rfl, rfl, trivial⟩ ?_ ?_
 ·refine rM rfl ?_
  refine RS.joinV 4 15 (.bool (decide ((((-1099511627776) ≤ a0_p.x) ∧ (a0_p.x ≤ 1099511627776)) ∧ ((-1099511627776) ≤ a0_p.y)))) [(1, _), (2, _)] ⟨rfl, rfl, trivial⟩ ?_ ?_
  ·refine rM rfl ?_
   refine RS.joinV 4 20 (.bool (decide (((((-1099511627776) ≤ a0_p.x) ∧ (a0_p.x ≤ 1099511627776)) ∧ ((-1099511627776) ≤ a0_p.y)) ∧ (a0_p.y ≤ 1099511627776)))) [(2, _)] ⟨rfl, trivial⟩ ?_ ?_
   ·refine rA rfl (RS.nil (hK2 _ _ ?_))
    obtain rfl := sj H
    refine T.rt (Cont.ret1 rfl rfl fun w' s => ?_)
    exact ⟨rfl, s.ext⟩
   ·intro hJ7
    refine RS.splitP 16 rfl (fun hc6 => ?_) (fun hc6 => ?_)
    ·refine rp (Pu.fieldAddr fd86_1 rfl) (rq (Qt.ldB 0 ty2 rfl rfl rfl) (rp (Pu.bin rfl rfl rfl) (rp (Pu.pickT rfl rfl) ?_)))
     exact hJ7 _ _ ⟨dAndT hc6, rfl, trivial⟩ (fun w s => s)
    ·refine ro (ro (ro (rp (Pu.pickF rfl rfl) ?_)))
     exact hJ7 _ _ ⟨dAndF hc6, rfl, trivial⟩ (fun w s => s)
  ·intro hJ5
   refine RS.splitP 11 rfl (fun hc4 => ?_) (fun hc4 => ?_)
   ·refine rp (Pu.fieldAddr fd86_1 rfl) (rq (Qt.ldB 0 ty2 rfl rfl rfl) (rp (Pu.bin rfl rfl rfl) (rp (Pu.pickT rfl rfl) ?_)))
    exact hJ5 _ _ ⟨dAndT hc4, rfl, rfl, trivial⟩ (fun w s => s)
   ·refine ro (ro (ro (rp (Pu.pickF rfl rfl) ?_)))
    exact hJ5 _ _ ⟨dAndF hc4, rfl, rfl, trivial⟩ (fun w s => s)
 ·intro hJ3
  refine RS.splitP 6 rfl (fun hc2 => ?_) (fun hc2 => ?_)
  ·refine rp (Pu.fieldAddr fd86_0 rfl) (rq (Qt.ldB 0 ty2 rfl rfl rfl) (rp (Pu.bin rfl rfl rfl) (rp (Pu.pickT rfl rfl) ?_)))
   exact hJ3 _ _ ⟨dAndT hc2, rfl, rfl, trivial⟩ (fun w s => s)
  ·refine ro (ro (ro (rp (Pu.pickF rfl rfl) ?_)))
   exact hJ3 _ _ ⟨dAndF hc2, rfl, rfl, trivial⟩ (fun w s => s)
theorem command_units_walk (a0_l : List Int) (w : World) {v0 : Value} (h0 : R (hpOf w) a0_l [v0]) {r : Bool} (H : command_units a0_l = some r) : Calls Tryz.prog 117 #[v0] w fun e w' => e = .returned (.bool r) ∧ Ext w w' := by
 have hm0 := R_max h0
 obtain ⟨p0, c0, rfl⟩ := R_form h0
 unfold command_units at H
 refine T.enter (args := [_]) (S := Sat w []) Tryz.func117 rfl rfl (Sat.start w) ?_
 refine T.seq fun K1 hK1 => T.region (rA rfl (RS.nil (hK1 _ _ ?_)))
 refine T.seq fun K2 hK2 => T.seq fun K3 hK3 => T.region (rM rfl (rp (Pu.lenSl sl23 rfl) (rM rfl (RS.nil (hK3 _ _ ?_)))))
 refine T.joinE (σ := Unit) (γ := Unit) H Ex.go [(0, _)] ⟨rfl, trivial⟩ (fun _ _ => []) (fun _ _ => Sat w []) ?_ ?_
 ·rintro ⟨⟩ ⟨⟩ H
  try dsimp only [Ex.then] at H
  refine Cont.conseq (fr' := [(0, _)]) ?_ ⟨rfl, trivial⟩ (fun _ s => s)
  refine id (hK2 _ _ ?_)
  refine T.seq fun K4 hK4 => T.region (rM rfl (rp (Pu.lenSl sl23 rfl) (rp (Pu.bin rfl rfl rfl) (rM rfl ?_))))
  refine RS.joinV 4 39 (.bool (decide ((1 ≤ (a0_l.length : Int)) ∧ ((a0_l.length : Int) ≤ 64)))) [] trivial ?_ ?_
  ·refine rA rfl (RS.nil (hK4 _ _ ?_))
   obtain rfl := sj H
   refine T.rt (Cont.ret1 rfl rfl fun w' s => ?_)
   exact ⟨rfl, s.ext⟩
  ·intro hJ3
   refine RS.splitP 35 rfl (fun hc2 => ?_) (fun hc2 => ?_)
   ·refine rM rfl (rp (Pu.lenSl sl23 rfl) (rp (Pu.bin rfl rfl rfl) (rp (Pu.pickT rfl rfl) ?_)))
    exact hJ3 _ _ ⟨dAndT hc2, trivial⟩ (fun w s => s)
   ·refine ro (ro (ro (rp (Pu.pickF rfl rfl) ?_)))
    exact hJ3 _ _ ⟨dAndF hc2, trivial⟩ (fun w s => s)
 ·intro z1 hz1 HX1 hJ1
  refine T.block ?_
  refine T.loopA (γ := Unit) hz1 [(0, _), (5, _), (6, _)] (fun v4 _ => [(7, .int .i64 v4)]) (fun v4 _ => Sat w []) () ⟨rfl, rfl, rfl, trivial⟩ ⟨rfl, trivial⟩ (fun w s => s) ?_
  rintro v4 ⟨⟩ y5 H hd1 KL1 hL1
  try dsimp only [Ex.then] at H
  refine cq [(7, _), (0, _), (5, _), (6, _)] ?_
  refine T.seq fun K5 hK5 => T.region (rp (Pu.bin rfl rfl rfl) (RS.nil (hK5 _ _ ?_)))
  refine T.seq fun K6 hK6 => ?_
  refine T.condP rfl (fun hc6 => ?_) (fun hc6 => ?_)
  ·have H := ifT hc6 H
   refine T.skip (hK6 _ _ ?_)
   refine T.seq fun K7 hK7 => T.block (T.seq fun K8 hK8 => T.region (rM rfl ?_))
   obtain ⟨g7, H⟩ := gdE H
   obtain ⟨bl8, ol9, rfl⟩ := R_ptr h0 (ne_of_pos (pos_of g7))
   refine rp (Pu.indexSl sl23 rfl rfl g7) (rq (Qt.ld0 (α := Int) (Rd.base h0) ty3 rfl rfl g7 (by rintro _ _ rfl; rfl)) (rA rfl (rA rfl (RS.nil (hK8 _ _ (cq [(0, _), (3, _), (4, _), (5, _), (6, _), (7, _)] ?_))))))
   refine T.seq fun K9 hK9 => T.region (rM rfl (rp (Pu.bin rfl rfl rfl) (rM rfl ?_)))
   refine RS.joinV 3 17 (.bool (decide (((gi a0_l v4) < 1) ∨ (1099511627776 < (gi a0_l v4))))) [(0, _), (3, _), (4, _), (5, _), (6, _), (7, _)] ⟨rfl, rfl, rfl, rfl, rfl, rfl, trivial⟩ ?_ ?_
   ·refine rM rfl ?_
    obtain ⟨g14, H⟩ := gdE H
    obtain ⟨g15, H⟩ := gdE H
    refine RS.joinV 12 30 (.bool (decide ((((gi a0_l v4) < 1) ∨ (1099511627776 < (gi a0_l v4))) ∨ ((0 < v4) ∧ ((gi a0_l v4) ≤ (gi a0_l (v4 - 1))))))) [(0, _), (5, _), (6, _), (7, _)] ⟨rfl, rfl, rfl, rfl, trivial⟩ ?_ ?_
    ·refine RS.nil (hK9 _ _ ?_)
     refine T.condP rfl (fun hc16 => ?_) (fun hc16 => ?_)
     ·have H := ifT hc16 H
      refine cq [] ?_
      refine T.seq fun K10 hK10 => T.region (rA rfl (RS.nil (hK10 _ _ ?_)))
      obtain rfl := hd1 _ H
      have H := HX1
      obtain rfl := sj H
      refine T.rt (Cont.ret1 rfl rfl fun w' s => ?_)
      exact ⟨rfl, s.ext⟩
     ·have H := ifF hc16 H
      refine T.skip (hK7 _ _ ?_)
      refine T.region ?_
      obtain ⟨g17, H⟩ := gdE H
      refine rp (Pu.addS rfl rfl g17) (rM rfl (RS.nil (hL1 _ _ (v4 + 1) () H ⟨rfl, rfl, rfl, trivial⟩ ⟨rfl, trivial⟩ (fun w s => s))))
    ·intro hJ13
     refine RS.splitP 18 rfl (fun hc12 => ?_) (fun hc12 => ?_)
     ·refine ro (ro (ro (ro (ro (ro (ro (ro (ro (ro (ro (rp (Pu.pickT rfl rfl) ?_)))))))))))
      exact hJ13 _ _ ⟨dOrT hc12, rfl, rfl, rfl, rfl, trivial⟩ (fun w s => s)
     ·refine rM rfl (rp (Pu.bin rfl rfl rfl) (rM rfl ?_))
      refine RS.joinV 8 29 (.bool (decide ((0 < v4) ∧ ((gi a0_l v4) ≤ (gi a0_l (v4 - 1)))))) [(0, _), (3, _), (4, _), (5, _), (6, _), (7, _), (17, _), (18, _), (19, _), (20, _)] ⟨rfl, rfl, rfl, rfl, rfl, rfl, rfl, rfl, rfl, rfl, trivial⟩ ?_ ?_
      ·refine rp (Pu.pickF rfl rfl) ?_
       exact hJ13 _ _ ⟨dOrF hc12, rfl, rfl, rfl, rfl, trivial⟩ (fun w s => s)
      ·intro hJ19
       refine RS.splitP 21 rfl (fun hc18 => ?_) (fun hc18 => ?_)
       ·refine rM rfl (rM rfl (rp (Pu.subS rfl rfl ((g14 hc12) hc18)) (rp (Pu.indexSl sl23 rfl rfl ((g15 hc12) hc18)) (rq (Qt.ld0 (α := Int) (Rd.base h0) ty3 rfl rfl ((g15 hc12) hc18) (by rintro _ _ rfl; rfl)) (rM rfl (rp (Pu.bin rfl rfl rfl) (rp (Pu.pickT rfl rfl) ?_)))))))
        exact hJ19 _ _ ⟨dAndT hc18, rfl, rfl, rfl, rfl, rfl, rfl, rfl, rfl, rfl, rfl, trivial⟩ (fun w s => s)
       ·refine ro (ro (ro (ro (ro (ro (ro (rp (Pu.pickF rfl rfl) ?_)))))))
        exact hJ19 _ _ ⟨dAndF hc18, rfl, rfl, rfl, rfl, rfl, rfl, rfl, rfl, rfl, rfl, trivial⟩ (fun w s => s)
   ·intro hJ11
    refine RS.splitP 14 rfl (fun hc10 => ?_) (fun hc10 => ?_)
    ·refine ro (ro (rp (Pu.pickT rfl rfl) ?_))
     exact hJ11 _ _ ⟨dOrT hc10, rfl, rfl, rfl, rfl, rfl, rfl, trivial⟩ (fun w s => s)
    ·refine rM rfl (rp (Pu.bin rfl rfl rfl) (rp (Pu.pickF rfl rfl) ?_))
     exact hJ11 _ _ ⟨dOrF hc10, rfl, rfl, rfl, rfl, rfl, rfl, trivial⟩ (fun w s => s)
  ·have H := ifF hc6 H
   obtain rfl := hd1 _ H
   refine T.xt (hJ1 _ _ () () HX1 ⟨rfl, trivial⟩ trivial (fun w s => s))
theorem command_within_walk (a0_n : Int) (a1_least : Int) (a2_most : Int) (w : World) {r : Bool} (H : command_within a0_n a1_least a2_most = some r) : Calls Tryz.prog 109 #[.int .i64 a0_n, .int .i64 a1_least, .int .i64 a2_most] w fun e w' => e = .returned (.bool r) ∧ Ext w w' := by
 unfold command_within at H
 refine T.enter (args := [_, _, _]) (S := Sat w []) Tryz.func109 rfl rfl (Sat.start w) ?_
 refine T.seq fun K1 hK1 => T.region (rA rfl (RS.nil (hK1 _ _ ?_)))
 refine T.seq fun K2 hK2 => T.region (rM rfl (rM rfl (rp (Pu.bin rfl rfl rfl) (rM rfl ?_))))
 refine RS.joinV 4 14 (.bool (decide ((a1_least ≤ a0_n) ∧ (a0_n ≤ a2_most)))) [(6, _)] ⟨rfl, trivial⟩ ?_ ?_
 ·refine rA rfl (RS.nil (hK2 _ _ ?_))
  obtain rfl := sj H
  refine T.rt (Cont.ret1 rfl rfl fun w' s => ?_)
  exact ⟨rfl, s.ext⟩
 ·intro hJ2
  refine RS.splitP 10 rfl (fun hc1 => ?_) (fun hc1 => ?_)
  ·refine rM rfl (rM rfl (rp (Pu.bin rfl rfl rfl) (rp (Pu.pickT rfl rfl) ?_)))
   exact hJ2 _ _ ⟨dAndT hc1, rfl, trivial⟩ (fun w s => s)
  ·refine ro (ro (ro (rp (Pu.pickF rfl rfl) ?_)))
   exact hJ2 _ _ ⟨dAndF hc1, rfl, trivial⟩ (fun w s => s)
theorem command_only_walk (a0_c : Cmd) (w : World) {v0 : Value} (B0 : Hp) (hB0 : B0.le (hpOf w)) (h0 : R B0 a0_c.units [v0]) {r : Cmd × Bool} (H : command_only a0_c = some r) : Calls Tryz.prog 108 #[.agg #[.int .i64 a0_c.player, .int .i64 a0_c.seq, .int .i64 a0_c.kind, .int .i64 a0_c.n, v0, .int .i64 a0_c.tile, .int .i64 a0_c.w, .int .i64 a0_c.h, .int .i64 a0_c.pos.x, .int .i64 a0_c.pos.y]] w fun e w' => ∃ u1 : Value, e = .returned (.tuple #[.agg #[.int .i64 r.1.player, .int .i64 r.1.seq, .int .i64 r.1.kind, .int .i64 r.1.n, u1, .int .i64 r.1.tile, .int .i64 r.1.w, .int .i64 r.1.h, .int .i64 r.1.pos.x, .int .i64 r.1.pos.y], .bool r.2]) ∧ Sat w [pc (R B0 (r.1.units : List Int) [u1])] w' := by
 have hm0 := R_max h0
 obtain ⟨p0, c0, rfl⟩ := R_form h0
 have hb0 := Enc.mono hB0 h0
 unfold command_only at H
 refine T.enter (args := [_]) (S := Sat w []) Tryz.func108 rfl rfl (Sat.start w) ?_
 refine T.seq fun K1 hK1 => T.region (RS.solid (Sd.box (cs := [_, _, _, _, _, _, _, _, _, _]) rfl rfl) rfl rfl fun b1 => RS.solid (Sd.alloc zr88 rfl) rfl rfl fun b2 => rA rfl (RS.nil (hK1 _ _ ?_)))
 refine T.seq fun K2 hK2 => T.region (rp (Pu.fieldAddr fd88_0 rfl) (rq (Qt.ldB 0 ty3 rfl rfl rfl) (rp (Pu.fieldAddr fd88_1 rfl) (rq (Qt.ldB 0 ty3 rfl rfl rfl) (rp (Pu.fieldAddr fd88_2 rfl) (rq (Qt.ldB 0 ty3 rfl rfl rfl) (rp (Pu.build (cells := [_, _, _, _, _, _, _, _, _, _]) st88 rfl rfl) (RS.solid (Sd.stB (cs' := [_, _, _, _, _, _, _, _, _, _]) 1 ty88 rfl rfl rfl rfl rfl rfl rfl rfl) rfl rfl fun _ => RS.nil (hK2 _ _ (cq [(1, _), (2, _), (3, _)] ?_))))))))))
 refine T.seq fun K3 hK3 => T.seq fun K4 hK4 => T.region (rp (Pu.fieldAddr fd88_2 rfl) (rq (Qt.ldB 0 ty3 rfl rfl rfl) (RS.nil (hK4 _ _ ?_))))
 refine T.block (T.seq fun K5 hK5 => T.region (rp (Pu.bin rfl rfl rfl) (rA rfl (RS.nil (hK5 _ _ ?_)))))
 refine T.condP rfl (fun hc3 => ?_) (fun hc3 => ?_)
 ·have H := ifT hc3 H
  refine cq [(1, _), (2, _)] ?_
  refine T.seq fun K6 hK6 => ?_
  refine T.drawnS [0] [(0, .pu), (1, .rd), (2, .pu), (3, .wk), (4, .pu), (5, .br), (6, .pu), (7, .br)] mixed (by kernel_rfl) rfl ?_
  refine RD.p (fun w s => s.pick [0] (by decide) rfl) rfl (Pu.fieldAddr fd88_3 rfl) rfl rfl (RD.q (fun w s => s.pick [0] (by decide) rfl) rfl (Qt.ldB 0 ty3 rfl rfl rfl) rfl rfl (RD.p (fun w s => s.pick [0] (by decide) rfl) rfl (Pu.fieldAddr fd88_8 rfl) rfl rfl ?_))
  refine RD.w (fun w s => s.pick [0] (by decide) rfl) rfl (Qt.ldBA (us := [_, _]) 0 ty86 rfl rfl rfl rfl) rfl rfl ?_
  refine RD.p (fun w s => s.pick [0] (by decide) rfl) rfl (Pu.fieldAddr fd88_3 rfl) rfl rfl (RD.solid rfl (.inr rfl) rfl rfl (Sd.stB (cs' := [_, _, _, _, _, _, _, _, _, _]) 1 ty3 rfl rfl rfl rfl rfl rfl rfl rfl) (fun _ => ClE.sat _ _) (fun _ w s => s.pick [0] (by decide) rfl) (fun h => nomatch h) fun _ => ?_)
  refine RD.p (fun w s => s.pick [0] (by decide) rfl) rfl (Pu.fieldAddr fd88_8 rfl) rfl rfl (RD.solid rfl (.inr rfl) rfl rfl (Sd.stB (cs' := [_, _, _, _, _, _, _, _, _, _]) 1 ty86 rfl rfl rfl rfl rfl rfl rfl rfl) (fun _ => ClE.sat _ _) (fun _ w s => s.pick [0] (by decide) rfl) (fun h => nomatch h) fun _ => ?_)
  refine RD.nil (hK6 _ _ (cq [(1, _), (2, _)] ?_))
  refine T.region (rp (Pu.fieldAddr fd88_3 rfl) (rq (Qt.ldB 0 ty3 rfl rfl rfl) ?_))
  obtain ⟨x4, hx4, H⟩ := bindE H
  refine rq (Qt.call (vs := [.int .i64 a0_c.n]) ent115 rfl fun w s => kind_May_walk a0_c.n w  hx4) (rM rfl ?_)
  refine RS.joinB H 4 28 (fun b7 => .bool b7) [(2, _)] ⟨rfl, trivial⟩ ?_ ?_
  ·intro b7 H
   refine rA rfl (RS.nil (hK3 _ _ ?_))
   refine T.seq fun K7 hK7 => T.region (rq (Qt.ldBA (us := [_, _, _, _, _, _, _, _, _, _]) 1 ty88 rfl rfl rfl rfl) (rM rfl (RS.solid (Sd.stB (cs' := [_, _, _, _, _, _, _, _, _, _]) 1 ty88 rfl rfl rfl rfl rfl rfl rfl rfl) rfl rfl fun _ => rA rfl (RS.nil (hK7 _ _ (cq [(2, _), (3, _)] ?_))))))
   obtain rfl := sj H
   refine T.rt (Cont.retCT 1 rfl ty88 rfl rfl rfl rfl fun w' s => ?_)
   exact ⟨.slice none 0 0, rfl, (s.addPc ⟨none, 0, rfl, by simp, by decide, .inl rfl⟩).pick [2] (by decide) rfl⟩
  ·intro z8 H hJ6
   refine RS.split 24 rfl (fun hc5 => ?_) (fun hc5 => ?_)
   ·have H := ifT hc5 H
    refine rp (Pu.fieldAddr fd88_8 rfl) (rq (Qt.ldBA (us := [_, _]) 0 ty86 rfl rfl rfl rfl) ?_)
    obtain ⟨x9, hx9, H⟩ := bindE H
    refine rq (Qt.call (vs := [.agg #[.int .i64 a0_c.pos.x, .int .i64 a0_c.pos.y]]) ent116 rfl fun w s => disc_Place_walk a0_c.pos w  hx9) (rp (Pu.pickT rfl rfl) ?_)
    obtain rfl := sj H
    exact hJ6 _ _ ⟨rfl, rfl, trivial⟩ (fun w s => s)
   ·have H := ifB hc5 H
    refine ro (ro (ro (rp (Pu.pickF rfl rfl) ?_)))
    obtain rfl := sj H
    exact hJ6 _ _ ⟨rfl, rfl, trivial⟩ (fun w s => s)
 ·have H := ifF hc3 H
  refine cq [(1, _), (2, _), (3, _), (12, _)] ?_
  refine T.seq fun K8 hK8 => T.region (rp (Pu.bin rfl rfl rfl) (rA rfl (RS.nil (hK8 _ _ ?_))))
  refine T.condP rfl (fun hc10 => ?_) (fun hc10 => ?_)
  ·have H := ifT hc10 H
   refine cq [(1, _), (2, _)] ?_
   refine T.seq fun K9 hK9 => ?_
   refine T.drawnS [0] [(0, .pu), (1, .rd), (2, .pu), (3, .wk), (4, .pu), (5, .br), (6, .pu), (7, .br)] mixed (by kernel_rfl) rfl ?_
   refine RD.p (fun w s => s.pick [0] (by decide) rfl) rfl (Pu.fieldAddr fd88_4 rfl) rfl rfl (RD.q (fun w s => s.pick [0] (by decide) rfl) rfl (Qt.ldB 0 ty23 rfl rfl rfl) rfl rfl (RD.p (fun w s => s.pick [0] (by decide) rfl) rfl (Pu.fieldAddr fd88_5 rfl) rfl rfl ?_))
   refine RD.w (fun w s => s.pick [0] (by decide) rfl) rfl (Qt.ldB 0 ty3 rfl rfl rfl) rfl rfl ?_
   refine RD.p (fun w s => s.pick [0] (by decide) rfl) rfl (Pu.fieldAddr fd88_4 rfl) rfl rfl (RD.solid rfl (.inr rfl) rfl rfl (Sd.stB (cs' := [_, _, _, _, _, _, _, _, _, _]) 1 ty23 rfl rfl rfl rfl rfl rfl rfl rfl) (fun _ => ClE.sat _ _) (fun _ w s => s.pick [0] (by decide) rfl) (fun h => nomatch h) fun _ => ?_)
   refine RD.p (fun w s => s.pick [0] (by decide) rfl) rfl (Pu.fieldAddr fd88_5 rfl) rfl rfl (RD.solid rfl (.inr rfl) rfl rfl (Sd.stB (cs' := [_, _, _, _, _, _, _, _, _, _]) 1 ty3 rfl rfl rfl rfl rfl rfl rfl rfl) (fun _ => ClE.sat _ _) (fun _ w s => s.pick [0] (by decide) rfl) (fun h => nomatch h) fun _ => ?_)
   refine RD.nil (hK9 _ _ (cq [(1, _), (2, _)] ?_))
   refine T.region (rp (Pu.fieldAddr fd88_4 rfl) (rq (Qt.ldB 0 ty23 rfl rfl rfl) ?_))
   obtain ⟨x11, hx11, H⟩ := bindE H
   refine rq (Qt.call (vs := [.slice p0 a0_c.units.length c0]) ent117 rfl fun w s => command_units_walk a0_c.units w ((Rd.base hb0) w s) hx11) (rM rfl ?_)
   refine RS.joinB H 4 44 (fun b14 => .bool b14) [(2, _)] ⟨rfl, trivial⟩ ?_ ?_
   ·intro b14 H
    refine rA rfl (RS.nil (hK3 _ _ ?_))
    refine T.seq fun K10 hK10 => T.region (rq (Qt.ldBA (us := [_, _, _, _, _, _, _, _, _, _]) 1 ty88 rfl rfl rfl rfl) (rM rfl (RS.solid (Sd.stB (cs' := [_, _, _, _, _, _, _, _, _, _]) 1 ty88 rfl rfl rfl rfl rfl rfl rfl rfl) rfl rfl fun _ => rA rfl (RS.nil (hK10 _ _ (cq [(2, _), (3, _)] ?_))))))
    obtain rfl := sj H
    refine T.rt (Cont.retCT 1 rfl ty88 rfl rfl rfl rfl fun w' s => ?_)
    exact ⟨.slice p0 a0_c.units.length c0, rfl, (s.addPc h0).pick [2] (by decide) rfl⟩
   ·intro z15 H hJ13
    refine RS.split 40 rfl (fun hc12 => ?_) (fun hc12 => ?_)
    ·have H := ifT hc12 H
     refine rp (Pu.fieldAddr fd88_5 rfl) (rq (Qt.ldB 0 ty3 rfl rfl rfl) ?_)
     obtain ⟨x16, hx16, H⟩ := bindE H
     refine rq (Qt.call (vs := [.int .i64 a0_c.tile, .int .i64 0, .int .i64 16383]) ent109 rfl fun w s => command_within_walk a0_c.tile 0 16383 w  hx16) (rp (Pu.pickT rfl rfl) ?_)
     obtain rfl := sj H
     exact hJ13 _ _ ⟨rfl, rfl, trivial⟩ (fun w s => s)
    ·have H := ifB hc12 H
     refine ro (ro (ro (rp (Pu.pickF rfl rfl) ?_)))
     obtain rfl := sj H
     exact hJ13 _ _ ⟨rfl, rfl, trivial⟩ (fun w s => s)
  ·have H := ifF hc10 H
   refine T.seq fun K11 hK11 => T.region (rp (Pu.bin rfl rfl rfl) (rA rfl (RS.nil (hK11 _ _ ?_))))
   refine T.condP rfl (fun hc17 => ?_) (fun hc17 => ?_)
   ·have H := ifT hc17 H
    refine cq [(1, _), (2, _)] ?_
    refine T.seq fun K12 hK12 => T.region (rp (Pu.fieldAddr fd88_4 rfl) (rq (Qt.ldB 0 ty23 rfl rfl rfl) (rp (Pu.fieldAddr fd88_4 rfl) (RS.solid (Sd.stB (cs' := [_, _, _, _, _, _, _, _, _, _]) 1 ty23 rfl rfl rfl rfl rfl rfl rfl rfl) rfl rfl fun _ => RS.nil (hK12 _ _ (cq [(1, _), (2, _)] ?_))))))
    refine T.region (rp (Pu.fieldAddr fd88_4 rfl) (rq (Qt.ldB 0 ty23 rfl rfl rfl) ?_))
    obtain ⟨x18, hx18, H⟩ := bindE H
    refine rq (Qt.call (vs := [.slice p0 a0_c.units.length c0]) ent117 rfl fun w s => command_units_walk a0_c.units w ((Rd.base hb0) w s) hx18) (rA rfl (RS.nil (hK3 _ _ (cq [(2, _), (3, _)] ?_))))
    refine T.seq fun K13 hK13 => T.region (rq (Qt.ldBA (us := [_, _, _, _, _, _, _, _, _, _]) 1 ty88 rfl rfl rfl rfl) (rM rfl (RS.solid (Sd.stB (cs' := [_, _, _, _, _, _, _, _, _, _]) 1 ty88 rfl rfl rfl rfl rfl rfl rfl rfl) rfl rfl fun _ => rA rfl (RS.nil (hK13 _ _ ?_)))))
    obtain rfl := sj H
    refine T.rt (Cont.retCT 1 rfl ty88 rfl rfl rfl rfl fun w' s => ?_)
    exact ⟨.slice p0 a0_c.units.length c0, rfl, (s.addPc h0).pick [2] (by decide) rfl⟩
   ·have H := ifF hc17 H
    refine cq [(1, _), (2, _), (3, _), (12, _)] ?_
    refine T.seq fun K14 hK14 => T.region (rp (Pu.bin rfl rfl rfl) (rA rfl (RS.nil (hK14 _ _ ?_))))
    refine T.condP rfl (fun hc19 => ?_) (fun hc19 => ?_)
    ·have H := ifT hc19 H
     refine cq [(1, _), (2, _)] ?_
     refine T.seq fun K15 hK15 => ?_
     refine T.drawnS [0] [(0, .pu), (1, .rd), (2, .pu), (3, .wk), (4, .pu), (5, .wk), (6, .pu), (7, .br), (8, .pu), (9, .br), (10, .pu), (11, .br)] mixed (by kernel_rfl) rfl ?_
     refine RD.p (fun w s => s.pick [0] (by decide) rfl) rfl (Pu.fieldAddr fd88_5 rfl) rfl rfl (RD.q (fun w s => s.pick [0] (by decide) rfl) rfl (Qt.ldB 0 ty3 rfl rfl rfl) rfl rfl (RD.p (fun w s => s.pick [0] (by decide) rfl) rfl (Pu.fieldAddr fd88_6 rfl) rfl rfl ?_))
     refine RD.w (fun w s => s.pick [0] (by decide) rfl) rfl (Qt.ldB 0 ty3 rfl rfl rfl) rfl rfl ?_
     refine RD.p (fun w s => s.pick [0] (by decide) rfl) rfl (Pu.fieldAddr fd88_7 rfl) rfl rfl ?_
     refine RD.w (fun w s => s.pick [0] (by decide) rfl) rfl (Qt.ldB 0 ty3 rfl rfl rfl) rfl rfl ?_
     refine RD.p (fun w s => s.pick [0] (by decide) rfl) rfl (Pu.fieldAddr fd88_5 rfl) rfl rfl (RD.solid rfl (.inr rfl) rfl rfl (Sd.stB (cs' := [_, _, _, _, _, _, _, _, _, _]) 1 ty3 rfl rfl rfl rfl rfl rfl rfl rfl) (fun _ => ClE.sat _ _) (fun _ w s => s.pick [0] (by decide) rfl) (fun h => nomatch h) fun _ => ?_)
     refine RD.p (fun w s => s.pick [0] (by decide) rfl) rfl (Pu.fieldAddr fd88_6 rfl) rfl rfl (RD.solid rfl (.inr rfl) rfl rfl (Sd.stB (cs' := [_, _, _, _, _, _, _, _, _, _]) 1 ty3 rfl rfl rfl rfl rfl rfl rfl rfl) (fun _ => ClE.sat _ _) (fun _ w s => s.pick [0] (by decide) rfl) (fun h => nomatch h) fun _ => ?_)
     refine RD.p (fun w s => s.pick [0] (by decide) rfl) rfl (Pu.fieldAddr fd88_7 rfl) rfl rfl (RD.solid rfl (.inr rfl) rfl rfl (Sd.stB (cs' := [_, _, _, _, _, _, _, _, _, _]) 1 ty3 rfl rfl rfl rfl rfl rfl rfl rfl) (fun _ => ClE.sat _ _) (fun _ w s => s.pick [0] (by decide) rfl) (fun h => nomatch h) fun _ => ?_)
     refine RD.nil (hK15 _ _ (cq [(1, _), (2, _)] ?_))
     refine T.region (rp (Pu.fieldAddr fd88_5 rfl) (rq (Qt.ldB 0 ty3 rfl rfl rfl) ?_))
     obtain ⟨x20, hx20, H⟩ := bindE H
     refine rq (Qt.call (vs := [.int .i64 a0_c.tile, .int .i64 0, .int .i64 16383]) ent109 rfl fun w s => command_within_walk a0_c.tile 0 16383 w  hx20) (rM rfl ?_)
     refine RS.joinB H 4 71 (fun b23 => .bool b23) [(1, _), (2, _)] ⟨rfl, rfl, trivial⟩ ?_ ?_
     ·intro b23 H
      refine rM rfl ?_
      refine RS.joinB H 4 76 (fun b26 => .bool b26) [(2, _)] ⟨rfl, trivial⟩ ?_ ?_
      ·intro b26 H
       refine rA rfl (RS.nil (hK3 _ _ ?_))
       refine T.seq fun K16 hK16 => T.region (rq (Qt.ldBA (us := [_, _, _, _, _, _, _, _, _, _]) 1 ty88 rfl rfl rfl rfl) (rM rfl (RS.solid (Sd.stB (cs' := [_, _, _, _, _, _, _, _, _, _]) 1 ty88 rfl rfl rfl rfl rfl rfl rfl rfl) rfl rfl fun _ => rA rfl (RS.nil (hK16 _ _ (cq [(2, _), (3, _)] ?_))))))
       obtain rfl := sj H
       refine T.rt (Cont.retCT 1 rfl ty88 rfl rfl rfl rfl fun w' s => ?_)
       exact ⟨.slice none 0 0, rfl, (s.addPc ⟨none, 0, rfl, by simp, by decide, .inl rfl⟩).pick [2] (by decide) rfl⟩
      ·intro z27 H hJ25
       refine RS.split 72 rfl (fun hc24 => ?_) (fun hc24 => ?_)
       ·have H := ifT hc24 H
        refine rp (Pu.fieldAddr fd88_7 rfl) (rq (Qt.ldB 0 ty3 rfl rfl rfl) ?_)
        obtain ⟨x28, hx28, H⟩ := bindE H
        refine rq (Qt.call (vs := [.int .i64 a0_c.h, .int .i64 1, .int .i64 4]) ent109 rfl fun w s => command_within_walk a0_c.h 1 4 w  hx28) (rp (Pu.pickT rfl rfl) ?_)
        obtain rfl := sj H
        exact hJ25 _ _ ⟨rfl, rfl, trivial⟩ (fun w s => s)
       ·have H := ifB hc24 H
        refine ro (ro (ro (rp (Pu.pickF rfl rfl) ?_)))
        obtain rfl := sj H
        exact hJ25 _ _ ⟨rfl, rfl, trivial⟩ (fun w s => s)
     ·intro z29 H hJ22
      refine RS.split 67 rfl (fun hc21 => ?_) (fun hc21 => ?_)
      ·have H := ifT hc21 H
       refine rp (Pu.fieldAddr fd88_6 rfl) (rq (Qt.ldB 0 ty3 rfl rfl rfl) ?_)
       obtain ⟨x30, hx30, H⟩ := bindE H
       refine rq (Qt.call (vs := [.int .i64 a0_c.w, .int .i64 1, .int .i64 4]) ent109 rfl fun w s => command_within_walk a0_c.w 1 4 w  hx30) (rp (Pu.pickT rfl rfl) ?_)
       obtain rfl := sj H
       exact hJ22 _ _ ⟨rfl, rfl, rfl, trivial⟩ (fun w s => s)
      ·have H := ifB hc21 H
       refine ro (ro (ro (rp (Pu.pickF rfl rfl) ?_)))
       obtain rfl := sj H
       exact hJ22 _ _ ⟨rfl, rfl, rfl, trivial⟩ (fun w s => s)
    ·have H := ifF hc19 H
     refine T.seq fun K17 hK17 => T.region (rp (Pu.bin rfl rfl rfl) (rA rfl (RS.nil (hK17 _ _ ?_))))
     refine T.condP rfl (fun hc31 => ?_) (fun hc31 => ?_)
     ·have H := ifT hc31 H
      refine cq [(1, _), (2, _)] ?_
      refine T.seq fun K18 hK18 => T.region (rp (Pu.fieldAddr fd88_3 rfl) (rq (Qt.ldB 0 ty3 rfl rfl rfl) (rp (Pu.fieldAddr fd88_3 rfl) (RS.solid (Sd.stB (cs' := [_, _, _, _, _, _, _, _, _, _]) 1 ty3 rfl rfl rfl rfl rfl rfl rfl rfl) rfl rfl fun _ => RS.nil (hK18 _ _ (cq [(1, _), (2, _)] ?_))))))
      refine T.region (rp (Pu.fieldAddr fd88_3 rfl) (rq (Qt.ldB 0 ty3 rfl rfl rfl) ?_))
      obtain ⟨x32, hx32, H⟩ := bindE H
      refine rq (Qt.call (vs := [.int .i64 a0_c.n, .int .i64 1, .int .i64 1099511627776]) ent109 rfl fun w s => command_within_walk a0_c.n 1 1099511627776 w  hx32) (rA rfl (RS.nil (hK3 _ _ (cq [(2, _), (3, _)] ?_))))
      refine T.seq fun K19 hK19 => T.region (rq (Qt.ldBA (us := [_, _, _, _, _, _, _, _, _, _]) 1 ty88 rfl rfl rfl rfl) (rM rfl (RS.solid (Sd.stB (cs' := [_, _, _, _, _, _, _, _, _, _]) 1 ty88 rfl rfl rfl rfl rfl rfl rfl rfl) rfl rfl fun _ => rA rfl (RS.nil (hK19 _ _ ?_)))))
      obtain rfl := sj H
      refine T.rt (Cont.retCT 1 rfl ty88 rfl rfl rfl rfl fun w' s => ?_)
      exact ⟨.slice none 0 0, rfl, (s.addPc ⟨none, 0, rfl, by simp, by decide, .inl rfl⟩).pick [2] (by decide) rfl⟩
     ·have H := ifF hc31 H
      refine cq [(1, _), (2, _), (3, _), (12, _)] ?_
      refine T.seq fun K20 hK20 => T.region (rp (Pu.bin rfl rfl rfl) (rA rfl (RS.nil (hK20 _ _ ?_))))
      refine T.condP rfl (fun hc33 => ?_) (fun hc33 => ?_)
      ·have H := ifT hc33 H
       refine cq [(1, _), (2, _)] ?_
       refine T.seq fun K21 hK21 => ?_
       refine T.drawnS [0] [(0, .pu), (1, .rd), (2, .pu), (3, .wk), (4, .pu), (5, .br), (6, .pu), (7, .br)] mixed (by kernel_rfl) rfl ?_
       refine RD.p (fun w s => s.pick [0] (by decide) rfl) rfl (Pu.fieldAddr fd88_4 rfl) rfl rfl (RD.q (fun w s => s.pick [0] (by decide) rfl) rfl (Qt.ldB 0 ty23 rfl rfl rfl) rfl rfl (RD.p (fun w s => s.pick [0] (by decide) rfl) rfl (Pu.fieldAddr fd88_3 rfl) rfl rfl ?_))
       refine RD.w (fun w s => s.pick [0] (by decide) rfl) rfl (Qt.ldB 0 ty3 rfl rfl rfl) rfl rfl ?_
       refine RD.p (fun w s => s.pick [0] (by decide) rfl) rfl (Pu.fieldAddr fd88_4 rfl) rfl rfl (RD.solid rfl (.inr rfl) rfl rfl (Sd.stB (cs' := [_, _, _, _, _, _, _, _, _, _]) 1 ty23 rfl rfl rfl rfl rfl rfl rfl rfl) (fun _ => ClE.sat _ _) (fun _ w s => s.pick [0] (by decide) rfl) (fun h => nomatch h) fun _ => ?_)
       refine RD.p (fun w s => s.pick [0] (by decide) rfl) rfl (Pu.fieldAddr fd88_3 rfl) rfl rfl (RD.solid rfl (.inr rfl) rfl rfl (Sd.stB (cs' := [_, _, _, _, _, _, _, _, _, _]) 1 ty3 rfl rfl rfl rfl rfl rfl rfl rfl) (fun _ => ClE.sat _ _) (fun _ w s => s.pick [0] (by decide) rfl) (fun h => nomatch h) fun _ => ?_)
       refine RD.nil (hK21 _ _ (cq [(1, _), (2, _)] ?_))
       refine T.region (rp (Pu.fieldAddr fd88_4 rfl) (rq (Qt.ldB 0 ty23 rfl rfl rfl) ?_))
       obtain ⟨x34, hx34, H⟩ := bindE H
       refine rq (Qt.call (vs := [.slice p0 a0_c.units.length c0]) ent117 rfl fun w s => command_units_walk a0_c.units w ((Rd.base hb0) w s) hx34) (rM rfl ?_)
       refine RS.joinB H 4 100 (fun b37 => .bool b37) [(2, _)] ⟨rfl, trivial⟩ ?_ ?_
       ·intro b37 H
        refine rA rfl (RS.nil (hK3 _ _ ?_))
        refine T.seq fun K22 hK22 => T.region (rq (Qt.ldBA (us := [_, _, _, _, _, _, _, _, _, _]) 1 ty88 rfl rfl rfl rfl) (rM rfl (RS.solid (Sd.stB (cs' := [_, _, _, _, _, _, _, _, _, _]) 1 ty88 rfl rfl rfl rfl rfl rfl rfl rfl) rfl rfl fun _ => rA rfl (RS.nil (hK22 _ _ (cq [(2, _), (3, _)] ?_))))))
        obtain rfl := sj H
        refine T.rt (Cont.retCT 1 rfl ty88 rfl rfl rfl rfl fun w' s => ?_)
        exact ⟨.slice p0 a0_c.units.length c0, rfl, (s.addPc h0).pick [2] (by decide) rfl⟩
       ·intro z38 H hJ36
        refine RS.split 96 rfl (fun hc35 => ?_) (fun hc35 => ?_)
        ·have H := ifT hc35 H
         refine rp (Pu.fieldAddr fd88_3 rfl) (rq (Qt.ldB 0 ty3 rfl rfl rfl) ?_)
         obtain ⟨x39, hx39, H⟩ := bindE H
         refine rq (Qt.call (vs := [.int .i64 a0_c.n, .int .i64 1, .int .i64 1099511627776]) ent109 rfl fun w s => command_within_walk a0_c.n 1 1099511627776 w  hx39) (rp (Pu.pickT rfl rfl) ?_)
         obtain rfl := sj H
         exact hJ36 _ _ ⟨rfl, rfl, trivial⟩ (fun w s => s)
        ·have H := ifB hc35 H
         refine ro (ro (ro (rp (Pu.pickF rfl rfl) ?_)))
         obtain rfl := sj H
         exact hJ36 _ _ ⟨rfl, rfl, trivial⟩ (fun w s => s)
      ·have H := ifF hc33 H
       refine T.seq fun K23 hK23 => T.region (rp (Pu.bin rfl rfl rfl) (rA rfl (RS.nil (hK23 _ _ ?_))))
       refine T.condP rfl (fun hc40 => ?_) (fun hc40 => ?_)
       ·have H := ifT hc40 H
        refine cq [(1, _), (2, _)] ?_
        refine T.seq fun K24 hK24 => ?_
        refine T.drawnS [0] [(0, .pu), (1, .rd), (2, .pu), (3, .wk), (4, .pu), (5, .br), (6, .pu), (7, .br)] mixed (by kernel_rfl) rfl ?_
        refine RD.p (fun w s => s.pick [0] (by decide) rfl) rfl (Pu.fieldAddr fd88_3 rfl) rfl rfl (RD.q (fun w s => s.pick [0] (by decide) rfl) rfl (Qt.ldB 0 ty3 rfl rfl rfl) rfl rfl (RD.p (fun w s => s.pick [0] (by decide) rfl) rfl (Pu.fieldAddr fd88_5 rfl) rfl rfl ?_))
        refine RD.w (fun w s => s.pick [0] (by decide) rfl) rfl (Qt.ldB 0 ty3 rfl rfl rfl) rfl rfl ?_
        refine RD.p (fun w s => s.pick [0] (by decide) rfl) rfl (Pu.fieldAddr fd88_3 rfl) rfl rfl (RD.solid rfl (.inr rfl) rfl rfl (Sd.stB (cs' := [_, _, _, _, _, _, _, _, _, _]) 1 ty3 rfl rfl rfl rfl rfl rfl rfl rfl) (fun _ => ClE.sat _ _) (fun _ w s => s.pick [0] (by decide) rfl) (fun h => nomatch h) fun _ => ?_)
        refine RD.p (fun w s => s.pick [0] (by decide) rfl) rfl (Pu.fieldAddr fd88_5 rfl) rfl rfl (RD.solid rfl (.inr rfl) rfl rfl (Sd.stB (cs' := [_, _, _, _, _, _, _, _, _, _]) 1 ty3 rfl rfl rfl rfl rfl rfl rfl rfl) (fun _ => ClE.sat _ _) (fun _ w s => s.pick [0] (by decide) rfl) (fun h => nomatch h) fun _ => ?_)
        refine RD.nil (hK24 _ _ (cq [(1, _), (2, _)] ?_))
        refine T.region (rp (Pu.fieldAddr fd88_3 rfl) (rq (Qt.ldB 0 ty3 rfl rfl rfl) ?_))
        obtain ⟨x41, hx41, H⟩ := bindE H
        refine rq (Qt.call (vs := [.int .i64 a0_c.n, .int .i64 1, .int .i64 1099511627776]) ent109 rfl fun w s => command_within_walk a0_c.n 1 1099511627776 w  hx41) (rM rfl ?_)
        refine RS.joinB H 4 116 (fun b44 => .bool b44) [(2, _)] ⟨rfl, trivial⟩ ?_ ?_
        ·intro b44 H
         refine rA rfl (RS.nil (hK3 _ _ ?_))
         refine T.seq fun K25 hK25 => T.region (rq (Qt.ldBA (us := [_, _, _, _, _, _, _, _, _, _]) 1 ty88 rfl rfl rfl rfl) (rM rfl (RS.solid (Sd.stB (cs' := [_, _, _, _, _, _, _, _, _, _]) 1 ty88 rfl rfl rfl rfl rfl rfl rfl rfl) rfl rfl fun _ => rA rfl (RS.nil (hK25 _ _ (cq [(2, _), (3, _)] ?_))))))
         obtain rfl := sj H
         refine T.rt (Cont.retCT 1 rfl ty88 rfl rfl rfl rfl fun w' s => ?_)
         exact ⟨.slice none 0 0, rfl, (s.addPc ⟨none, 0, rfl, by simp, by decide, .inl rfl⟩).pick [2] (by decide) rfl⟩
        ·intro z45 H hJ43
         refine RS.split 112 rfl (fun hc42 => ?_) (fun hc42 => ?_)
         ·have H := ifT hc42 H
          refine rp (Pu.fieldAddr fd88_5 rfl) (rq (Qt.ldB 0 ty3 rfl rfl rfl) ?_)
          obtain ⟨x46, hx46, H⟩ := bindE H
          refine rq (Qt.call (vs := [.int .i64 a0_c.tile, .int .i64 0, .int .i64 16383]) ent109 rfl fun w s => command_within_walk a0_c.tile 0 16383 w  hx46) (rp (Pu.pickT rfl rfl) ?_)
          obtain rfl := sj H
          exact hJ43 _ _ ⟨rfl, rfl, trivial⟩ (fun w s => s)
         ·have H := ifB hc42 H
          refine ro (ro (ro (rp (Pu.pickF rfl rfl) ?_)))
          obtain rfl := sj H
          exact hJ43 _ _ ⟨rfl, rfl, trivial⟩ (fun w s => s)
       ·have H := ifF hc40 H
        refine T.skip (hK3 _ _ (cq [(2, _), (3, _)] ?_))
        refine T.seq fun K26 hK26 => T.region (rq (Qt.ldBA (us := [_, _, _, _, _, _, _, _, _, _]) 1 ty88 rfl rfl rfl rfl) (rM rfl (RS.solid (Sd.stB (cs' := [_, _, _, _, _, _, _, _, _, _]) 1 ty88 rfl rfl rfl rfl rfl rfl rfl rfl) rfl rfl fun _ => rA rfl (RS.nil (hK26 _ _ ?_)))))
        obtain rfl := sj H
        refine T.rt (Cont.retCT 1 rfl ty88 rfl rfl rfl rfl fun w' s => ?_)
        exact ⟨.slice none 0 0, rfl, (s.addPc ⟨none, 0, rfl, by simp, by decide, .inl rfl⟩).pick [2] (by decide) rfl⟩
theorem command_May_walk (a0_c : Cmd) (w : World) {v0 : Value} (h0 : R (hpOf w) a0_c.units [v0]) {r : Bool} (H : command_May a0_c = some r) : Calls Tryz.prog 97 #[.agg #[.int .i64 a0_c.player, .int .i64 a0_c.seq, .int .i64 a0_c.kind, .int .i64 a0_c.n, v0, .int .i64 a0_c.tile, .int .i64 a0_c.w, .int .i64 a0_c.h, .int .i64 a0_c.pos.x, .int .i64 a0_c.pos.y]] w fun e w' => e = .returned (.bool r) ∧ Ext w w' := by
 have hm0 := R_max h0
 obtain ⟨p0, c0, rfl⟩ := R_form h0
 unfold command_May at H
 refine T.enter (args := [_]) (S := Sat w []) Tryz.func97 rfl rfl (Sat.start w) ?_
 refine T.seq fun K1 hK1 => T.region (RS.solid (Sd.box (cs := [_, _, _, _, _, _, _, _, _, _]) rfl rfl) rfl rfl fun b1 => rA rfl (RS.nil (hK1 _ _ ?_)))
 refine T.seq fun K2 hK2 => T.region (rq (Qt.ldBA (us := [_, _, _, _, _, _, _, _, _, _]) 0 ty88 rfl rfl rfl rfl) ?_)
 obtain ⟨x2, hx2, H⟩ := bindE H
 refine RS.solid (Sd.callN (vs := [.agg #[.int .i64 a0_c.player, .int .i64 a0_c.seq, .int .i64 a0_c.kind, .int .i64 a0_c.n, .slice p0 a0_c.units.length c0, .int .i64 a0_c.tile, .int .i64 a0_c.w, .int .i64 a0_c.h, .int .i64 a0_c.pos.x, .int .i64 a0_c.pos.y]]) ent108 rfl (fun w s => command_only_walk a0_c w (_) (s.ext.hp) (h0) hx2)) rfl rfl fun u3 => ?_
 refine RS.know (fun w s => s.getPc 1 rfl) fun hu4 => ?_
 obtain ⟨p5, cc6, rfl⟩ := R_form hu4
 refine rM rfl (rp (Pu.extract rfl rfl) (rp (Pu.extract rfl rfl) (RS.solid (Sd.alloc zr88 rfl) rfl rfl fun b7 => RS.solid (Sd.stB (cs' := [_, _, _, _, _, _, _, _, _, _]) 2 ty88 rfl rfl rfl rfl rfl rfl rfl rfl) rfl rfl fun _ => rA rfl (RS.nil (hK2 _ _ (cq [(1, _), (3, _), (4, _)] ?_))))))
 refine T.seq fun K3 hK3 => T.region (rM rfl (rM rfl ?_))
 refine RS.joinB H 4 15 (fun b10 => .bool b10) [(1, _), (3, _)] ⟨rfl, rfl, trivial⟩ ?_ ?_
 ·intro b10 H
  refine rM rfl ?_
  refine RS.joinB H 4 20 (fun b13 => .bool b13) [(1, _), (3, _)] ⟨rfl, rfl, trivial⟩ ?_ ?_
  ·intro b13 H
   refine rM rfl ?_
   refine RS.joinV 6 27 (.bool (decide ((b13 = true) ∧ (x2.1.n = a0_c.n)))) [(1, _), (3, _)] ⟨rfl, rfl, trivial⟩ ?_ ?_
   ·refine rM rfl ?_
    refine RS.joinV 6 34 (.bool (decide (((b13 = true) ∧ (x2.1.n = a0_c.n)) ∧ (x2.1.pos = a0_c.pos)))) [(1, _), (3, _)] ⟨rfl, rfl, trivial⟩ ?_ ?_
    ·refine rM rfl ?_
     refine RS.joinV 6 41 (.bool (decide ((((b13 = true) ∧ (x2.1.n = a0_c.n)) ∧ (x2.1.pos = a0_c.pos)) ∧ (x2.1.tile = a0_c.tile)))) [(1, _), (3, _)] ⟨rfl, rfl, trivial⟩ ?_ ?_
     ·refine rM rfl ?_
      refine RS.joinV 6 48 (.bool (decide (((((b13 = true) ∧ (x2.1.n = a0_c.n)) ∧ (x2.1.pos = a0_c.pos)) ∧ (x2.1.tile = a0_c.tile)) ∧ (x2.1.w = a0_c.w)))) [(1, _), (3, _)] ⟨rfl, rfl, trivial⟩ ?_ ?_
      ·refine rM rfl ?_
       refine RS.joinV 6 55 (.bool (decide ((((((b13 = true) ∧ (x2.1.n = a0_c.n)) ∧ (x2.1.pos = a0_c.pos)) ∧ (x2.1.tile = a0_c.tile)) ∧ (x2.1.w = a0_c.w)) ∧ (x2.1.h = a0_c.h)))) [(1, _), (3, _)] ⟨rfl, rfl, trivial⟩ ?_ ?_
       ·refine rM rfl ?_
        refine RS.joinV 8 64 (.bool (decide (((((((b13 = true) ∧ (x2.1.n = a0_c.n)) ∧ (x2.1.pos = a0_c.pos)) ∧ (x2.1.tile = a0_c.tile)) ∧ (x2.1.w = a0_c.w)) ∧ (x2.1.h = a0_c.h)) ∧ ((x2.1.units.length : Int) = (a0_c.units.length : Int))))) [] trivial ?_ ?_
        ·refine rA rfl (RS.nil (hK3 _ _ ?_))
         obtain rfl := sj H
         refine T.rt (Cont.ret1 rfl rfl fun w' s => ?_)
         exact ⟨rfl, s.ext⟩
        ·intro hJ25
         refine RS.splitP 56 rfl (fun hc24 => ?_) (fun hc24 => ?_)
         ·refine rp (Pu.fieldAddr fd88_4 rfl) (rq (Qt.ldB 2 ty23 rfl rfl rfl) (rp (Pu.lenSl sl23 rfl) (rp (Pu.fieldAddr fd88_4 rfl) (rq (Qt.ldB 0 ty23 rfl rfl rfl) (rp (Pu.lenSl sl23 rfl) (rp (Pu.bin rfl rfl rfl) (rp (Pu.pickT rfl rfl) ?_)))))))
          exact hJ25 _ _ ⟨dAndT hc24, trivial⟩ (fun w s => s)
         ·refine ro (ro (ro (ro (ro (ro (ro (rp (Pu.pickF rfl rfl) ?_)))))))
          exact hJ25 _ _ ⟨dAndF hc24, trivial⟩ (fun w s => s)
       ·intro hJ23
        refine RS.splitP 49 rfl (fun hc22 => ?_) (fun hc22 => ?_)
        ·refine rp (Pu.fieldAddr fd88_7 rfl) (rq (Qt.ldB 2 ty3 rfl rfl rfl) (rp (Pu.fieldAddr fd88_7 rfl) (rq (Qt.ldB 0 ty3 rfl rfl rfl) (rp (Pu.bin rfl rfl rfl) (rp (Pu.pickT rfl rfl) ?_)))))
         exact hJ23 _ _ ⟨dAndT hc22, rfl, rfl, trivial⟩ (fun w s => s)
        ·refine ro (ro (ro (ro (ro (rp (Pu.pickF rfl rfl) ?_)))))
         exact hJ23 _ _ ⟨dAndF hc22, rfl, rfl, trivial⟩ (fun w s => s)
      ·intro hJ21
       refine RS.splitP 42 rfl (fun hc20 => ?_) (fun hc20 => ?_)
       ·refine rp (Pu.fieldAddr fd88_6 rfl) (rq (Qt.ldB 2 ty3 rfl rfl rfl) (rp (Pu.fieldAddr fd88_6 rfl) (rq (Qt.ldB 0 ty3 rfl rfl rfl) (rp (Pu.bin rfl rfl rfl) (rp (Pu.pickT rfl rfl) ?_)))))
        exact hJ21 _ _ ⟨dAndT hc20, rfl, rfl, trivial⟩ (fun w s => s)
       ·refine ro (ro (ro (ro (ro (rp (Pu.pickF rfl rfl) ?_)))))
        exact hJ21 _ _ ⟨dAndF hc20, rfl, rfl, trivial⟩ (fun w s => s)
     ·intro hJ19
      refine RS.splitP 35 rfl (fun hc18 => ?_) (fun hc18 => ?_)
      ·refine rp (Pu.fieldAddr fd88_5 rfl) (rq (Qt.ldB 2 ty3 rfl rfl rfl) (rp (Pu.fieldAddr fd88_5 rfl) (rq (Qt.ldB 0 ty3 rfl rfl rfl) (rp (Pu.bin rfl rfl rfl) (rp (Pu.pickT rfl rfl) ?_)))))
       exact hJ19 _ _ ⟨dAndT hc18, rfl, rfl, trivial⟩ (fun w s => s)
      ·refine ro (ro (ro (ro (ro (rp (Pu.pickF rfl rfl) ?_)))))
       exact hJ19 _ _ ⟨dAndF hc18, rfl, rfl, trivial⟩ (fun w s => s)
    ·intro hJ17
     refine RS.splitP 28 rfl (fun hc16 => ?_) (fun hc16 => ?_)
     ·refine rp (Pu.fieldAddr fd88_8 rfl) (rq (Qt.ldBA (us := [_, _]) 2 ty86 rfl rfl rfl rfl) (rp (Pu.fieldAddr fd88_8 rfl) (rq (Qt.ldBA (us := [_, _]) 0 ty86 rfl rfl rfl rfl) (rp (Pu.eqSt eqt86 rfl rfl rfl (eq_Vec x2.1.pos a0_c.pos)) (rp (Pu.pickT rfl rfl) ?_)))))
      exact hJ17 _ _ ⟨dAndT hc16, rfl, rfl, trivial⟩ (fun w s => s)
     ·refine ro (ro (ro (ro (ro (rp (Pu.pickF rfl rfl) ?_)))))
      exact hJ17 _ _ ⟨dAndF hc16, rfl, rfl, trivial⟩ (fun w s => s)
   ·intro hJ15
    refine RS.split 21 rfl (fun hc14 => ?_) (fun hc14 => ?_)
    ·refine rp (Pu.fieldAddr fd88_3 rfl) (rq (Qt.ldB 2 ty3 rfl rfl rfl) (rp (Pu.fieldAddr fd88_3 rfl) (rq (Qt.ldB 0 ty3 rfl rfl rfl) (rp (Pu.bin rfl rfl rfl) (rp (Pu.pickT rfl rfl) ?_)))))
     exact hJ15 _ _ ⟨dAndT hc14, rfl, rfl, trivial⟩ (fun w s => s)
    ·refine ro (ro (ro (ro (ro (rp (Pu.pickF rfl rfl) ?_)))))
     exact hJ15 _ _ ⟨dAndF (bne_of hc14), rfl, rfl, trivial⟩ (fun w s => s)
  ·intro z26 H hJ12
   refine RS.split 16 rfl (fun hc11 => ?_) (fun hc11 => ?_)
   ·have H := ifT hc11 H
    refine rp (Pu.fieldAddr fd88_1 rfl) (rq (Qt.ldB 0 ty3 rfl rfl rfl) ?_)
    obtain ⟨x27, hx27, H⟩ := bindE H
    refine rq (Qt.call (vs := [.int .i64 a0_c.seq, .int .i64 0, .int .i64 1099511627776]) ent109 rfl fun w s => command_within_walk a0_c.seq 0 1099511627776 w  hx27) (rp (Pu.pickT rfl rfl) ?_)
    obtain rfl := sj H
    exact hJ12 _ _ ⟨rfl, rfl, rfl, trivial⟩ (fun w s => s)
   ·have H := ifB hc11 H
    refine ro (ro (ro (rp (Pu.pickF rfl rfl) ?_)))
    obtain rfl := sj H
    exact hJ12 _ _ ⟨rfl, rfl, rfl, trivial⟩ (fun w s => s)
 ·intro z28 H hJ9
  refine RS.split 11 rfl (fun hc8 => ?_) (fun hc8 => ?_)
  ·have H := ifT hc8 H
   refine rp (Pu.fieldAddr fd88_0 rfl) (rq (Qt.ldB 0 ty3 rfl rfl rfl) ?_)
   obtain ⟨x29, hx29, H⟩ := bindE H
   refine rq (Qt.call (vs := [.int .i64 a0_c.player, .int .i64 1, .int .i64 8]) ent109 rfl fun w s => command_within_walk a0_c.player 1 8 w  hx29) (rp (Pu.pickT rfl rfl) ?_)
   obtain rfl := sj H
   exact hJ9 _ _ ⟨rfl, rfl, rfl, trivial⟩ (fun w s => s)
  ·have H := ifB hc8 H
   refine ro (ro (ro (rp (Pu.pickF rfl rfl) ?_)))
   obtain rfl := sj H
   exact hJ9 _ _ ⟨rfl, rfl, rfl, trivial⟩ (fun w s => s)
theorem command_Own_walk (a0_c : Cmd) (w : World) {v0 : Value} (h0 : R (hpOf w) a0_c.units [v0]) {r : Cmd} (H : command_Own a0_c = some r) : Calls Tryz.prog 107 #[.agg #[.int .i64 a0_c.player, .int .i64 a0_c.seq, .int .i64 a0_c.kind, .int .i64 a0_c.n, v0, .int .i64 a0_c.tile, .int .i64 a0_c.w, .int .i64 a0_c.h, .int .i64 a0_c.pos.x, .int .i64 a0_c.pos.y]] w fun e w' => ∃ q1 : (Option Nat × Nat), e = .returned (.agg #[.int .i64 r.player, .int .i64 r.seq, .int .i64 r.kind, .int .i64 r.n, rowV q1 r.units.length, .int .i64 r.tile, .int .i64 r.w, .int .i64 r.h, .int .i64 r.pos.x, .int .i64 r.pos.y]) ∧ Sat w [row nilH 3 (rowV q1 r.units.length) r.units] w' := by
 have hm0 := R_max h0
 obtain ⟨p0, c0, rfl⟩ := R_form h0
 unfold command_Own at H
 refine T.enter (args := [_]) (S := Sat w []) Tryz.func107 rfl rfl (Sat.start w) ?_
 refine T.seq fun K1 hK1 => T.region (RS.solid (Sd.box (cs := [_, _, _, _, _, _, _, _, _, _]) rfl rfl) rfl rfl fun b1 => RS.solid (Sd.alloc zr88 rfl) rfl rfl fun b2 => RS.nil (hK1 _ _ ?_))
 refine T.seq fun K2 hK2 => T.region (rp (Pu.fieldAddr fd88_4 rfl) (rq (Qt.ldB 0 ty23 rfl rfl rfl) ?_))
 obtain ⟨x3, hx3, H⟩ := bindE H
 refine RS.solid (Sd.callN (vs := [.slice p0 a0_c.units.length c0]) ent90 rfl (fun w s => slices_Clone_Int_walk a0_c.units w ((Rd.base h0) w s) hx3)) rfl rfl fun q4 => rp (Pu.fieldAddr fd88_4 rfl) (RS.solid (Sd.stB (cs' := [_, _, _, _, _, _, _, _, _, _]) 0 ty23 rfl rfl rfl rfl rfl rfl rfl rfl) rfl rfl fun _ => RS.nil (hK2 _ _ (cq [(1, _), (2, _)] ?_)))
 refine T.seq fun K3 hK3 => T.region (rq (Qt.ldBA (us := [_, _, _, _, _, _, _, _, _, _]) 0 ty88 rfl rfl rfl rfl) (RS.solid (Sd.stB (cs' := [_, _, _, _, _, _, _, _, _, _]) 1 ty88 rfl rfl rfl rfl rfl rfl rfl rfl) rfl rfl fun _ => RS.nil (hK3 _ _ ?_)))
 obtain rfl := sj H
 refine T.rt (Cont.retC 1 rfl ty88 rfl rfl rfl fun w' s => ?_)
 exact ⟨q4, rfl, s.pick [2] (by decide) rfl⟩
theorem command_OwnAll_walk (a0_l : List Cmd) (w : World) {v0 : Value} (h0 : R (hpOf w) a0_l [v0]) {r : List Cmd} (H : command_OwnAll a0_l = some r) : Calls Tryz.prog 96 #[v0] w fun e w' => ∃ q1 : (Option Nat × Nat), e = .returned (rowV q1 r.length) ∧ Sat w [drow 88 (rowV q1 r.length) r] w' := by
 have hm0 := R_max h0
 obtain ⟨p0, c0, rfl⟩ := R_form h0
 unfold command_OwnAll at H
 refine T.enter (args := [_]) (S := Sat w []) Tryz.func96 rfl rfl (Sat.start w) ?_
 refine T.seq fun K1 hK1 => T.region (rA rfl (RS.nil (hK1 _ _ ?_)))
 refine T.seq fun K2 hK2 => T.seq fun K3 hK3 => T.region (rM rfl (rp (Pu.lenSl sl39 rfl) (rM rfl (RS.nil (hK3 _ _ ?_)))))
 refine T.joinE (σ := List Cmd) (γ := (Option Nat × Nat)) H (fun s => s) [] trivial (fun v2 q3 => [(2, rowV q3 v2.length)]) (fun v2 q3 => Sat w [drow 88 (rowV q3 v2.length) v2]) ?_ ?_
 ·rintro v2 q3 H
  try dsimp only [Ex.then] at H
  refine Cont.conseq (fr' := [(2, _)]) ?_ ⟨rfl, trivial⟩ (fun _ s => s)
  refine id (hK2 _ _ ?_)
  refine T.seq fun K4 hK4 => T.region (rM rfl (rA rfl (RS.nil (hK4 _ _ ?_))))
  obtain rfl := sj H
  refine T.rt (Cont.ret1 rfl rfl fun w' s => ?_)
  exact ⟨q3, rfl, s.pick [0] (by decide) rfl⟩
 ·intro z1 hz1 HX1 hJ1
  refine T.block ?_
  refine T.loopA (γ := (Option Nat × Nat)) hz1 [(5, _), (6, _)] (fun (l4, v6) q5 => [(2, rowV q5 l4.length), (7, .int .i64 v6)]) (fun (l4, v6) q5 => Sat w [drow 88 (rowV q5 l4.length) l4]) (none, 0) ⟨rfl, rfl, trivial⟩ ⟨rfl, rfl, trivial⟩ (fun w s => (s.nilRowG (α := Cmd) 88).pick [0] (by decide) rfl) ?_
  rintro ⟨l4, v6⟩ q5 y7 H hd1 KL1 hL1
  try dsimp only [Ex.then] at H
  refine cq [(2, _), (7, _), (5, _), (6, _)] ?_
  refine T.seq fun K5 hK5 => T.region (rp (Pu.bin rfl rfl rfl) (RS.nil (hK5 _ _ ?_)))
  refine T.seq fun K6 hK6 => ?_
  refine T.condP rfl (fun hc8 => ?_) (fun hc8 => ?_)
  ·have H := ifT hc8 H
   refine T.skip (hK6 _ _ ?_)
   refine T.seq fun K7 hK7 => T.block (T.seq fun K8 hK8 => T.region ?_)
   obtain ⟨g9, H⟩ := gdE H
   obtain ⟨bl10, ol11, rfl⟩ := R_ptr h0 (ne_of_pos (pos_of g9))
   refine rp (Pu.indexSl sl39 rfl rfl g9) ?_
   obtain ⟨c12, hc13, ha14⟩ := R_el (α := Cmd) h0 g9
   obtain ⟨u15, rfl, hu15⟩ := hc13
   obtain ⟨p16, cc17, rfl⟩ := R_form hu15
   refine rq (Qt.ldZ (cs := [_, _, _, _, _, _, _, _, _, _]) ty88 rfl ha14 Held.base rfl) (RS.solid (Sd.alloc zr88 rfl) rfl rfl fun b18 => RS.solid (Sd.stB (cs' := [_, _, _, _, _, _, _, _, _, _]) 1 ty88 rfl rfl rfl rfl rfl rfl rfl rfl) rfl rfl fun _ => RS.nil (hK8 _ _ (cq [(2, _), (4, _), (5, _), (6, _), (7, _)] ?_)))
   refine T.region (rM rfl (rq (Qt.ldBA (us := [_, _, _, _, _, _, _, _, _, _]) 1 ty88 rfl rfl rfl rfl) ?_))
   obtain ⟨x19, hx19, H⟩ := bindE H
   refine RS.solid (Sd.callN (vs := [.agg #[.int .i64 ((gi a0_l v6).player), .int .i64 ((gi a0_l v6).seq), .int .i64 ((gi a0_l v6).kind), .int .i64 ((gi a0_l v6).n), .slice p16 ((gi a0_l v6).units).length cc17, .int .i64 ((gi a0_l v6).tile), .int .i64 ((gi a0_l v6).w), .int .i64 ((gi a0_l v6).h), .int .i64 (((gi a0_l v6).pos).x), .int .i64 (((gi a0_l v6).pos).y)]]) ent107 rfl (fun w s => command_Own_walk (gi a0_l v6) w ((Rd.base hu15) w s) hx19)) rfl rfl fun q20 => RS.solid (Sd.litS (cs := [_, _, _, _, _, _, _, _, _, _]) sl39 zr88 rfl rfl rfl rfl rfl) rfl rfl fun b21 => ?_
   obtain ⟨g23, H⟩ := gdE H
   refine RS.solid (Sd.pre (fun w s => (Sat.starAt 2 4 (Sat.starAt 2 5 ((s.noStars).noStars) rfl rfl (by decide)) rfl rfl (by decide))) (Sd.appL (α := Cmd) 0 3 2 ([x19] : List Cmd) rfl rfl rfl (DRF.cons' (α := Cmd) (x := x19) (fun _ h => ⟨_, rfl, h⟩) DRF.nil') rfl sl39 zr88 rfl rfl rfl rfl g23 (by decide))) rfl rfl fun q22 => rA rfl (RS.nil (hK7 _ _ (cq [(2, _), (5, _), (6, _), (7, _)] ?_)))
   refine T.region ?_
   obtain ⟨g24, H⟩ := gdE H
   refine rp (Pu.addS rfl rfl g24) (rM rfl (RS.nil (hL1 _ _ ((l4 ++ ([x19] : List Cmd)), (v6 + 1)) q22 H ⟨rfl, rfl, trivial⟩ ⟨rfl, rfl, trivial⟩ (fun w s => s.pick [0] (by decide) rfl))))
  ·have H := ifF hc8 H
   obtain rfl := hd1 _ H
   refine T.xt (hJ1 _ _ l4 q5 HX1 trivial ⟨rfl, trivial⟩ (fun w s => s))
theorem cmp_isNaN_walk (a0_x : Int) (w : World) {r : Bool} (H : cmp_isNaN a0_x = some r) : Calls Tryz.prog 113 #[.int .i64 a0_x] w fun e w' => e = .returned (.bool r) ∧ Ext w w' := by
 unfold cmp_isNaN at H
 refine T.enter (args := [_]) (S := Sat w []) Tryz.func113 rfl rfl (Sat.start w) ?_
 refine T.seq fun K1 hK1 => T.region (rA rfl (RS.nil (hK1 _ _ ?_)))
 refine T.seq fun K2 hK2 => T.region (rM rfl (rM rfl (rp (Pu.bin rfl rfl rfl) (rA rfl (RS.nil (hK2 _ _ (cq [(2, _)] ?_)))))))
 obtain rfl := sj H
 refine T.rt (Cont.ret1 rfl rfl fun w' s => ?_)
 exact ⟨rfl, s.ext⟩
theorem cmp_Compare_walk (a0_x : Int) (a1_y : Int) (w : World) {r : Int} (H : cmp_Compare a0_x a1_y = some r) : Calls Tryz.prog 104 #[.int .i64 a0_x, .int .i64 a1_y] w fun e w' => e = .returned (.int .i64 r) ∧ Ext w w' := by
 unfold cmp_Compare at H
 refine T.enter (args := [_, _]) (S := Sat w []) Tryz.func104 rfl rfl (Sat.start w) ?_
 refine T.seq fun K1 hK1 => T.region (rA rfl (RS.nil (hK1 _ _ ?_)))
 refine T.seq fun K2 hK2 => T.region (rM rfl ?_)
 obtain ⟨x1, hx1, H⟩ := bindE H
 refine rq (Qt.call (vs := [.int .i64 a0_x]) ent113 rfl fun w s => cmp_isNaN_walk a0_x w  hx1) (rA rfl (RS.nil (hK2 _ _ (cq [(0, _), (1, _), (5, _)] ?_))))
 refine T.seq fun K3 hK3 => T.region (rM rfl ?_)
 obtain ⟨x2, hx2, H⟩ := bindE H
 refine rq (Qt.call (vs := [.int .i64 a1_y]) ent113 rfl fun w s => cmp_isNaN_walk a1_y w  hx2) (rA rfl (RS.nil (hK3 _ _ ?_)))
 refine T.seq fun K4 hK4 => T.seq fun K5 hK5 => T.region (rM rfl (RS.nil (hK5 _ _ ?_)))
 refine T.cond rfl (fun hc3 => ?_) (fun hc3 => ?_)
 ·have H := ifT hc3 H
  refine cq [(6, _)] ?_
  refine T.seq fun K6 hK6 => T.seq fun K7 hK7 => T.region (rM rfl (RS.nil (hK7 _ _ ?_)))
  refine T.cond rfl (fun hc4 => ?_) (fun hc4 => ?_)
  ·have H := ifT hc4 H
   refine T.seq fun K8 hK8 => T.region (rA rfl (RS.nil (hK8 _ _ ?_)))
   obtain rfl := sj H
   refine T.rt (Cont.ret1 rfl rfl fun w' s => ?_)
   exact ⟨rfl, s.ext⟩
  ·have H := ifB hc4 H
   refine T.skip (hK6 _ _ ?_)
   refine T.seq fun K9 hK9 => T.region (rA rfl (RS.nil (hK9 _ _ ?_)))
   obtain rfl := sj H
   refine T.rt (Cont.ret1 rfl rfl fun w' s => ?_)
   exact ⟨rfl, s.ext⟩
 ·have H := ifB hc3 H
  refine T.skip (hK4 _ _ (cq [(0, _), (1, _), (6, _)] ?_))
  refine T.seq fun K10 hK10 => T.seq fun K11 hK11 => T.region (rM rfl (RS.nil (hK11 _ _ ?_)))
  refine T.cond rfl (fun hc5 => ?_) (fun hc5 => ?_)
  ·have H := ifT hc5 H
   refine cq [] ?_
   refine T.seq fun K12 hK12 => T.region (rA rfl (RS.nil (hK12 _ _ ?_)))
   obtain rfl := sj H
   refine T.rt (Cont.ret1 rfl rfl fun w' s => ?_)
   exact ⟨rfl, s.ext⟩
  ·have H := ifB hc5 H
   refine T.skip (hK10 _ _ ?_)
   refine T.seq fun K13 hK13 => T.seq fun K14 hK14 => T.region (rM rfl (rM rfl (rp (Pu.bin rfl rfl rfl) (RS.nil (hK14 _ _ ?_)))))
   refine T.condP rfl (fun hc6 => ?_) (fun hc6 => ?_)
   ·have H := ifT hc6 H
    refine cq [] ?_
    refine T.seq fun K15 hK15 => T.region (rA rfl (RS.nil (hK15 _ _ ?_)))
    obtain rfl := sj H
    refine T.rt (Cont.ret1 rfl rfl fun w' s => ?_)
    exact ⟨rfl, s.ext⟩
   ·have H := ifF hc6 H
    refine T.skip (hK13 _ _ (cq [(0, _), (1, _)] ?_))
    refine T.seq fun K16 hK16 => T.seq fun K17 hK17 => T.region (rM rfl (rM rfl (rp (Pu.bin rfl rfl rfl) (RS.nil (hK17 _ _ ?_)))))
    refine T.condP rfl (fun hc7 => ?_) (fun hc7 => ?_)
    ·have H := ifT hc7 H
     refine cq [] ?_
     refine T.seq fun K18 hK18 => T.region (rA rfl (RS.nil (hK18 _ _ ?_)))
     obtain rfl := sj H
     refine T.rt (Cont.ret1 rfl rfl fun w' s => ?_)
     exact ⟨rfl, s.ext⟩
    ·have H := ifF hc7 H
     refine T.skip (hK16 _ _ (cq [] ?_))
     refine T.seq fun K19 hK19 => T.region (rA rfl (RS.nil (hK19 _ _ ?_)))
     obtain rfl := sj H
     refine T.rt (Cont.ret1 rfl rfl fun w' s => ?_)
     exact ⟨rfl, s.ext⟩
theorem cmp_Or_walk (a0_vals : List Int) (w : World) {v0 : Value} (h0 : R (hpOf w) a0_vals [v0]) {r : Int} (H : cmp_Or a0_vals = some r) : Calls Tryz.prog 103 #[v0] w fun e w' => e = .returned (.int .i64 r) ∧ Ext w w' := by
 have hm0 := R_max h0
 obtain ⟨p0, c0, rfl⟩ := R_form h0
 unfold cmp_Or at H
 refine T.enter (args := [_]) (S := Sat w []) Tryz.func103 rfl rfl (Sat.start w) ?_
 refine T.seq fun K1 hK1 => T.region (rA rfl (RS.nil (hK1 _ _ ?_)))
 refine T.seq fun K2 hK2 => T.region (rA rfl (RS.nil (hK2 _ _ ?_)))
 refine T.seq fun K3 hK3 => T.seq fun K4 hK4 => T.region (rM rfl (rp (Pu.lenSl sl23 rfl) (rM rfl (RS.nil (hK4 _ _ ?_)))))
 refine T.joinE (σ := Unit) (γ := Unit) H Ex.go [(3, _)] ⟨rfl, trivial⟩ (fun _ _ => []) (fun _ _ => Sat w []) ?_ ?_
 ·rintro ⟨⟩ ⟨⟩ H
  try dsimp only [Ex.then] at H
  refine Cont.conseq (fr' := [(3, _)]) ?_ ⟨rfl, trivial⟩ (fun _ s => s)
  refine id (hK3 _ _ ?_)
  refine T.seq fun K5 hK5 => T.region (rM rfl (rA rfl (RS.nil (hK5 _ _ ?_))))
  obtain rfl := sj H
  refine T.rt (Cont.ret1 rfl rfl fun w' s => ?_)
  exact ⟨rfl, s.ext⟩
 ·intro z1 hz1 HX1 hJ1
  refine T.block ?_
  refine T.loopA (γ := Unit) hz1 [(3, _), (6, _), (7, _)] (fun v2 _ => [(8, .int .i64 v2)]) (fun v2 _ => Sat w []) () ⟨rfl, rfl, rfl, trivial⟩ ⟨rfl, trivial⟩ (fun w s => s) ?_
  rintro v2 ⟨⟩ y3 H hd1 KL1 hL1
  try dsimp only [Ex.then] at H
  refine cq [(8, _), (3, _), (6, _), (7, _)] ?_
  refine T.seq fun K6 hK6 => T.region (rp (Pu.bin rfl rfl rfl) (RS.nil (hK6 _ _ ?_)))
  refine T.seq fun K7 hK7 => ?_
  refine T.condP rfl (fun hc4 => ?_) (fun hc4 => ?_)
  ·have H := ifT hc4 H
   refine T.skip (hK7 _ _ ?_)
   refine T.seq fun K8 hK8 => T.block (T.seq fun K9 hK9 => T.region ?_)
   obtain ⟨g5, H⟩ := gdE H
   obtain ⟨bl6, ol7, rfl⟩ := R_ptr h0 (ne_of_pos (pos_of g5))
   refine rp (Pu.indexSl sl23 rfl rfl g5) (rq (Qt.ld0 (α := Int) (Rd.base h0) ty3 rfl rfl g5 (by rintro _ _ rfl; rfl)) (rA rfl (RS.nil (hK9 _ _ (cq [(3, _), (5, _), (6, _), (7, _), (8, _)] ?_)))))
   refine T.seq fun K10 hK10 => T.region (rM rfl (rM rfl (rp (Pu.bin rfl rfl rfl) (RS.nil (hK10 _ _ ?_)))))
   refine T.condP rfl (fun hc8 => ?_) (fun hc8 => ?_)
   ·have H := ifT hc8 H
    refine cq [(5, _)] ?_
    refine T.seq fun K11 hK11 => T.region (rM rfl (rA rfl (RS.nil (hK11 _ _ ?_))))
    obtain rfl := hd1 _ H
    have H := HX1
    obtain rfl := sj H
    refine T.rt (Cont.ret1 rfl rfl fun w' s => ?_)
    exact ⟨rfl, s.ext⟩
   ·have H := ifF hc8 H
    refine T.skip (hK8 _ _ (cq [(3, _), (6, _), (7, _), (8, _)] ?_))
    refine T.region ?_
    obtain ⟨g9, H⟩ := gdE H
    refine rp (Pu.addS rfl rfl g9) (rM rfl (RS.nil (hL1 _ _ (v2 + 1) () H ⟨rfl, rfl, rfl, trivial⟩ ⟨rfl, trivial⟩ (fun w s => s))))
  ·have H := ifF hc4 H
   obtain rfl := hd1 _ H
   refine T.xt (hJ1 _ _ () () HX1 ⟨rfl, trivial⟩ trivial (fun w s => s))
theorem thronglaw0_Numbers_walk {w0 : World} {F : Ch} (a0_l : List Int) {q0 : Option Nat × Nat} {m0 : Nat} (hm : m0 = a0_l.length) {r : Unit} (H : thronglaw0_Numbers a0_l = some r) (w : World) (s : Sat w0 [row nilH 3 (rowV q0 m0) a0_l, F] w) : Calls Tryz.prog 66 #[rowV q0 m0] w fun e w' => e = .returned (.tuple #[]) ∧ Sat w0 [dead, F] w' := by
 subst hm
 unfold thronglaw0_Numbers at H
 refine T.enter (args := [_]) (S := Sat w0 [row nilH 3 (rowV q0 a0_l.length) a0_l, F]) Tryz.func66 rfl rfl (s) ?_
 refine T.seq fun K1 hK1 => T.seq fun K2 hK2 => T.region (rA rfl (RS.nil (hK2 _ _ ?_)))
 refine T.joinE (σ := List Int) (γ := Unit) H (fun s => s) [(0, _)] ⟨rfl, trivial⟩ (fun v2 _ => []) (fun v2 _ => Sat w0 [row nilH 3 (rowV q0 a0_l.length) v2, F]) ?_ ?_
 ·rintro v2 ⟨⟩ H
  try dsimp only [Ex.then] at H
  refine Cont.conseq (fr' := [(0, _)]) ?_ ⟨rfl, trivial⟩ (fun _ s => s)
  refine id (hK1 _ _ ?_)
  refine T.region (rM rfl (RS.solid (Sd.litS (cs := [_]) sl23 zr3 rfl rfl rfl rfl rfl) rfl rfl fun b3 => ?_))
  obtain ⟨g5, H⟩ := gdE H
  refine RS.solid (Sd.app1c (α := Int) 0 2 5 rfl rfl (nilH_lt _) sl23 zr3 rfl rfl rfl rfl g5 (by decide)) rfl rfl fun q4 => rA rfl ?_
  obtain rfl := sj H
  refine RS.nil (Cont.end0 rfl fun w' s => ?_)
  exact ⟨rfl, (s.deadRow).pick [3, 1] (by decide) rfl⟩
 ·intro z1 hz1 HX1 hJ1
  refine T.block ?_
  refine T.loopA (γ := Unit) hz1 [(0, _)] (fun (v6, l7) _ => [(2, .int .i64 v6)]) (fun (v6, l7) _ => Sat w0 [row nilH 3 (rowV q0 a0_l.length) l7, F]) () ⟨rfl, trivial⟩ ⟨rfl, trivial⟩ (fun w s => s) ?_
  rintro ⟨v6, l7⟩ ⟨⟩ y8 H hd1 KL1 hL1
  try dsimp only [Ex.then] at H
  refine cq [(2, _), (0, _)] ?_
  refine T.seq fun K3 hK3 => T.seq fun K4 hK4 => T.region (rM rfl (rM rfl (rp (Pu.lenSl sl23 rfl) (rp (Pu.bin rfl rfl rfl) (RS.nil (hK4 _ _ ?_))))))
  refine T.condP rfl (fun hc9 => ?_) (fun hc9 => ?_)
  ·have H := ifT hc9 H
   refine T.skip (hK3 _ _ (cq [(0, _), (2, _)] ?_))
   refine T.seq fun K5 hK5 => T.block (T.region (rM rfl (rM rfl ?_)))
   obtain ⟨g10, H⟩ := gdE H
   refine RS.know (fun w s => (s.row_fits (q := q0) (m := a0_l.length) (k := 0) rfl)) fun hf11 => ?_
   refine RS.know (p := ∃ g cap, q0 = (some g, cap)) (fun w s => (s.row_some (k := 0) rfl (pos_of (idx_of hf11.1 g10)))) ?_
   rintro ⟨gg12, cc13, rfl⟩
   refine rp (Pu.indexSl sl23 rfl rfl g10) (RS.solid (Sd.st0 (α := Int) 0 (-99) rfl ty3 rfl rfl rfl (idx_of hf11.1 g10) rfl rfl (by decide) rfl (by rintro _ _ rfl; rfl)) rfl rfl fun _ => RS.nil (hK5 _ _ (cq [(0, _), (2, _)] ?_)))
   refine T.region (rM rfl ?_)
   obtain ⟨g14, H⟩ := gdE H
   refine rp (Pu.addS rfl rfl g14) (rA rfl (RS.nil (hL1 _ _ ((v6 + 1), (si l7 v6 (-99))) () H ⟨rfl, trivial⟩ ⟨rfl, trivial⟩ (fun w s => s))))
  ·have H := ifF hc9 H
   obtain rfl := hd1 _ H
   refine T.xt (hJ1 _ _ l7 () HX1 ⟨rfl, trivial⟩ trivial (fun w s => s))
theorem turns_less_walk (a0_a : Inp) (a1_b : Inp) (w : World) {v0 v1 : Value} {r : Int} (H : turns_less a0_a a1_b = some r) : Calls Tryz.prog 86 #[.agg #[.int .i64 a0_a.turn, .int .i64 a0_a.player, v0], .agg #[.int .i64 a1_b.turn, .int .i64 a1_b.player, v1]] w fun e w' => e = .returned (.int .i64 r) ∧ Ext w w' := by
 unfold turns_less at H
 refine T.enter (args := [_, _]) (S := Sat w []) Tryz.func86 rfl rfl (Sat.start w) ?_
 refine T.seq fun K1 hK1 => T.region (RS.solid (Sd.box (cs := [_, _, _]) rfl rfl) rfl rfl fun b1 => RS.solid (Sd.box (cs := [_, _, _]) rfl rfl) rfl rfl fun b2 => rA rfl (RS.nil (hK1 _ _ (cq [(2, _), (3, _)] ?_))))
 refine T.seq fun K2 hK2 => ?_
 refine T.drawn (fun _ => True) [(0, .pu), (1, .rd), (2, .pu), (3, .rd), (4, .rd), (5, .pu), (6, .rd), (7, .pu), (8, .rd), (9, .rd), (10, .so), (11, .rd), (12, .pu)] mixed (ClE.sat _ _) (by kernel_rfl) ?_
 refine dp rfl (Pu.fieldAddr fd41_0 rfl) (dq rfl (Qt.ldB 0 ty3 rfl rfl rfl) (dp rfl (Pu.fieldAddr fd41_0 rfl) (dq rfl (Qt.ldB 1 ty3 rfl rfl rfl) ?_)))
 obtain ⟨x3, hx3, H⟩ := bindE H
 refine dq rfl (Qt.call (vs := [.int .i64 a0_a.turn, .int .i64 a1_b.turn]) ent104 rfl fun w s => cmp_Compare_walk a0_a.turn a1_b.turn w  hx3) (dp rfl (Pu.fieldAddr fd41_1 rfl) (dq rfl (Qt.ldB 0 ty3 rfl rfl rfl) (dp rfl (Pu.fieldAddr fd41_1 rfl) (dq rfl (Qt.ldB 1 ty3 rfl rfl rfl) ?_))))
 obtain ⟨x4, hx4, H⟩ := bindE H
 refine dq rfl (Qt.call (vs := [.int .i64 a0_a.player, .int .i64 a1_b.player]) ent104 rfl fun w s => cmp_Compare_walk a0_a.player a1_b.player w  hx4) (RD.solid rfl (.inl rfl) rfl rfl (Sd.litS (cs := [_, _]) sl23 zr3 rfl rfl rfl rfl rfl) (fun _ => ClE.sat _ _) (fun _ _ _ => trivial) (fun _ _ _ s => s.drop1) fun b5 => ?_)
 obtain ⟨x6, hx6, H⟩ := bindE H
 refine dq rfl (Qt.call (vs := [.slice (some ⟨b5, 0, none⟩) 2 2]) ent103 rfl fun w s => cmp_Or_walk [x3, x4] w ((Rd.ofLit (α := Int) (n := 2) (xs := [x3, x4]) 2 rfl (by decide) rfl ⟨[_], _, rfl, rfl, ⟨[_], _, rfl, rfl, rfl⟩⟩) w s) hx6) (dp rfl (Pu.assign rfl) (RD.nil (hK2 _ _ (cq [(4, _)] ?_))))
 obtain rfl := sj H
 refine T.rt (Cont.ret1 rfl rfl fun w' s => ?_)
 exact ⟨rfl, s.ext⟩
end Go.Proofs.YtnadebijiaelkaaGreat
