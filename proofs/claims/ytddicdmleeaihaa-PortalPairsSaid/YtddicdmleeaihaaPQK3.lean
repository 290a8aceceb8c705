/-
  Walk of PortalPairs.
-/
import Derived.Test.YtddicdmleeaihaaRows
import Derived.Test.YtddicdmleeaihaaPQH
import Derived.Test.YtddicdmleeaihaaPQG3
set_option linter.unusedVariables false
set_option linter.unusedSimpArgs false
set_option maxRecDepth 20000
set_option maxHeartbeats 4000000
namespace Go.Proofs.Ytddicdmleeaihaa
open Go.Vg
open Enc (R)
open Sp
theorem ent16 : Ent Try.prog 16 := ⟨_, _, Try.func16, by kernel_rfl, rfl⟩
theorem ent17 : Ent Try.prog 17 := ⟨_, _, Try.func17, by kernel_rfl, rfl⟩
theorem ent7 : Ent Try.prog 7 := ⟨_, _, Try.func7, by kernel_rfl, rfl⟩
theorem fd40_2 : fdOff Try.prog 40 2 = some 2 := by kernel_rfl
theorem ty25 : tySz Try.prog 25 = some (5, true) := by kernel_rfl
theorem thronglaw11_PortalPairs_walk (a0_p : Ask) (w : World) {v0 v1 v2 : Value} (h0 : R (hpOf w) a0_p.Free [v0]) (h1 : R (hpOf w) a0_p.Ts [v1]) (h2 : R (hpOf w) a0_p.Parts [v2]) {r : Bool} (H : thronglaw11_PortalPairs a0_p = some r) : Calls Try.prog 5 #[.agg #[.int .i64 a0_p.W, .int .i64 a0_p.H, v0, v1, v2]] w fun e w' => e = .returned (.bool r) ∧ Ext w w' := by
 have hm0 := R_max h0
 obtain ⟨p0, c0, rfl⟩ := R_form h0
 have hm1 := R_max h1
 obtain ⟨p1, c1, rfl⟩ := R_form h1
 have hm2 := R_max h2
 obtain ⟨p2, c2, rfl⟩ := R_form h2
 unfold thronglaw11_PortalPairs at H
 refine T.enter (args := [_]) (S := Sat w []) Try.func5 rfl rfl (Sat.start w) ?_
 refine T.seq fun K1 hK1 => ?_
 refine T.region ?_
 refine RS.solid (Sd.box (cs := [_, _, _, _, _]) rfl rfl) rfl rfl fun b1 => ?_
 refine RS.p (Pu.assign rfl) rfl rfl ?_
 refine RS.nil (hK1 _ _ ?_)
 refine T.seq fun K2 hK2 => ?_
 refine T.seq fun K3 hK3 => ?_
 refine T.region ?_
 refine RS.q (Qt.ldBA (us := [_, _, _, _, _]) 0 ty25 rfl rfl rfl rfl) rfl rfl ?_
 obtain ⟨x2, hx2, H⟩ := bindE H
 refine RS.q (Qt.call (vs := [.agg #[.int .i64 a0_p.W, .int .i64 a0_p.H, .slice p0 a0_p.Free.length c0, .slice p1 a0_p.Ts.length c1, .slice p2 a0_p.Parts.length c2]]) ent7 rfl fun w s => thronglaw11_heavy_walk a0_p w ((Rd.base h0) w s) ((Rd.base h1) w s) ((Rd.base h2) w s) hx2) rfl rfl ?_
 refine RS.nil (hK3 _ _ ?_)
 refine T.cond rfl (fun hc3 => ?_) (fun hc3 => ?_)
 ·have H := ifT hc3 H
  refine T.conseq (fr' := []) ?_ trivial (fun _ s => s)
  refine T.seq fun K4 hK4 => ?_
  refine T.region ?_
  refine RS.p (Pu.assign rfl) rfl rfl ?_
  refine RS.nil (hK4 _ _ ?_)
  obtain rfl := Option.some.inj H
  refine T.rt (Cont.ret1 rfl rfl fun w' s => ?_)
  exact ⟨rfl, s.ext⟩
 ·have H := ifB hc3 H
  refine T.skip (hK2 _ _ (T.conseq (fr' := [(1, _)]) ?_ ⟨rfl, trivial⟩ (fun _ s => s)))
  refine T.seq fun K5 hK5 => ?_
  refine T.region ?_
  refine RS.p (Pu.fieldAddr fd25_0 rfl) rfl rfl ?_
  refine RS.q (Qt.ldB 0 ty3 rfl rfl rfl) rfl rfl ?_
  refine RS.p (Pu.fieldAddr fd25_1 rfl) rfl rfl ?_
  refine RS.q (Qt.ldB 0 ty3 rfl rfl rfl) rfl rfl ?_
  refine RS.p (Pu.fieldAddr fd25_2 rfl) rfl rfl ?_
  refine RS.q (Qt.ldB 0 ty22 rfl rfl rfl) rfl rfl ?_
  obtain ⟨x4, hx4, H⟩ := bindE H
  refine RS.solid (Sd.callN (vs := [.int .i64 a0_p.W, .int .i64 a0_p.H, .slice p0 a0_p.Free.length c0]) ent11 rfl (fun w s => portal_Find_walk a0_p.W a0_p.H a0_p.Free w ((Rd.base h0) w s) hx4)) rfl rfl fun q5 => ?_
  refine RS.p (Pu.move rfl) rfl rfl ?_
  refine RS.p (Pu.extract rfl rfl) rfl rfl ?_
  refine RS.p (Pu.extract rfl rfl) rfl rfl ?_
  refine RS.p (Pu.assign rfl) rfl rfl ?_
  refine RS.p (Pu.assign rfl) rfl rfl ?_
  refine RS.nil (hK5 _ _ (T.conseq (fr' := [(1, _), (3, _), (4, _)]) ?_ ⟨rfl, rfl, rfl, trivial⟩ (fun _ s => s)))
  refine T.seq fun K6 hK6 => ?_
  refine T.seq fun K7 hK7 => ?_
  refine T.region ?_
  refine RS.p (Pu.move rfl) rfl rfl ?_
  obtain ⟨x6, hx6, H⟩ := bindE H
  refine RS.q (Qt.call (vs := [.int .i64 x4.2]) ent12 rfl fun w s => thronglaw11_num_walk x4.2 w  hx6) rfl rfl ?_
  refine RS.p (Pu.bin rfl rfl rfl) rfl rfl ?_
  refine RS.nil (hK7 _ _ ?_)
  refine T.condP rfl (fun hc7 => ?_) (fun hc7 => ?_)
  ·have H := ifT hc7 H
   refine T.conseq (fr' := []) ?_ trivial (fun _ s => s)
   refine T.seq fun K8 hK8 => ?_
   refine T.region ?_
   refine RS.p (Pu.assign rfl) rfl rfl ?_
   refine RS.nil (hK8 _ _ ?_)
   obtain rfl := Option.some.inj H
   refine T.rt (Cont.ret1 rfl rfl fun w' s => ?_)
   exact ⟨rfl, s.ext⟩
  ·have H := ifF hc7 H
   refine T.skip (hK6 _ _ (T.conseq (fr' := [(1, _), (3, _)]) ?_ ⟨rfl, rfl, trivial⟩ (fun _ s => s)))
   refine T.seq fun K9 hK9 => ?_
   refine T.region ?_
   refine RS.p (Pu.assign rfl) rfl rfl ?_
   refine RS.nil (hK9 _ _ ?_)
   refine T.seq fun K10 hK10 => ?_
   refine T.seq fun K11 hK11 => ?_
   refine T.region ?_
   refine RS.p (Pu.assign rfl) rfl rfl ?_
   refine RS.nil (hK11 _ _ ?_)
   refine T.joinE (σ := Int) (γ := Unit) H (fun s => s) [(1, _), (3, _)] ⟨rfl, rfl, trivial⟩ (fun v9 _ => [(5, .int .i64 v9)]) (fun v9 _ => Sat w [blk b1 [.int .i64 a0_p.W, .int .i64 a0_p.H, .slice p0 a0_p.Free.length c0, .slice p1 a0_p.Ts.length c1, .slice p2 a0_p.Parts.length c2] 25, row nilH 40 (rowV q5 x4.1.length) x4.1]) ?_ ?_
   ·rintro v9 ⟨⟩ H
    try dsimp only [Ex.then] at H
    refine Cont.conseq (fr' := [(5, _), (1, _), (3, _)]) ?_ ⟨rfl, rfl, rfl, trivial⟩ (fun _ s => s)
    refine id (hK10 _ _ ?_)
    refine T.seq fun K12 hK12 => ?_
    refine T.seq fun K13 hK13 => ?_
    refine T.region ?_
    refine RS.p (Pu.assign rfl) rfl rfl ?_
    refine RS.nil (hK13 _ _ ?_)
    refine T.joinE (σ := Int) (γ := Unit) H Ex.go [] trivial (fun v11 _ => [(5, .int .i64 v11)]) (fun v11 _ => Sat w [blk b1 [.int .i64 a0_p.W, .int .i64 a0_p.H, .slice p0 a0_p.Free.length c0, .slice p1 a0_p.Ts.length c1, .slice p2 a0_p.Parts.length c2] 25, row nilH 40 (rowV q5 x4.1.length) x4.1]) ?_ ?_
    ·rintro v11 ⟨⟩ H
     try dsimp only [Ex.then] at H
     refine Cont.conseq (fr' := [(5, _)]) ?_ ⟨rfl, trivial⟩ (fun _ s => s)
     refine id (hK12 _ _ ?_)
     refine T.seq fun K14 hK14 => ?_
     refine T.region ?_
     refine RS.p (Pu.move rfl) rfl rfl ?_
     refine RS.p (Pu.bin rfl rfl rfl) rfl rfl ?_
     refine RS.p (Pu.move rfl) rfl rfl ?_
     refine RS.joinB H 2 203 (fun b14 => .bool b14) [] trivial ?_ ?_
     ·intro b14 H
      refine RS.p (Pu.assign rfl) rfl rfl ?_
      refine RS.nil (hK14 _ _ ?_)
      obtain rfl := Option.some.inj H
      refine T.rt (Cont.ret1 rfl rfl fun w' s => ?_)
      exact ⟨rfl, s.ext⟩
     ·intro z15 H hJ13
      refine RS.splitP 201 rfl (fun hc12 => ?_) (fun hc12 => ?_)
      ·have H := ifT hc12 H
       obtain ⟨x16, hx16, H⟩ := bindE H
       refine RS.q (Qt.call (vs := []) ent16 rfl fun w s => thronglaw11_wakes_walk  w  hx16) rfl rfl ?_
       refine RS.p (Pu.pickT rfl rfl) rfl rfl ?_
       obtain rfl := Option.some.inj H
       exact hJ13 _ _ ⟨rfl, trivial⟩ (fun w s => s)
      ·have H := ifF hc12 H
       refine RS.no rfl rfl ?_
       refine RS.p (Pu.pickF rfl rfl) rfl rfl ?_
       obtain rfl := Option.some.inj H
       exact hJ13 _ _ ⟨rfl, trivial⟩ (fun w s => s)
    ·intro z10 hz10 HX10 hJ10
     refine T.block ?_
     refine T.loopA (γ := Unit) hz10 [(1, _), (3, _)] (fun (v17, v18) _ => [(5, .int .i64 v17), (7, .int .i64 v18)]) (fun (v17, v18) _ => Sat w [blk b1 [.int .i64 a0_p.W, .int .i64 a0_p.H, .slice p0 a0_p.Free.length c0, .slice p1 a0_p.Ts.length c1, .slice p2 a0_p.Parts.length c2] 25, row nilH 40 (rowV q5 x4.1.length) x4.1]) () ⟨rfl, rfl, trivial⟩ ⟨rfl, rfl, trivial⟩ (fun w s => s) ?_
     rintro ⟨v17, v18⟩ ⟨⟩ y19 H hd10 KL10 hL10
     try dsimp only [Ex.then] at H
     refine T.conseq (fr' := [(5, _), (7, _), (1, _), (3, _)]) ?_ ⟨rfl, rfl, rfl, rfl, trivial⟩ (fun _ s => s)
     refine T.seq fun K15 hK15 => ?_
     refine T.seq fun K16 hK16 => ?_
     refine T.region ?_
     refine RS.p (Pu.move rfl) rfl rfl ?_
     refine RS.p (Pu.move rfl) rfl rfl ?_
     refine RS.p (Pu.lenSl sl27 rfl) rfl rfl ?_
     refine RS.p (Pu.bin rfl rfl rfl) rfl rfl ?_
     refine RS.nil (hK16 _ _ ?_)
     refine T.condP rfl (fun hc20 => ?_) (fun hc20 => ?_)
     ·have H := ifT hc20 H
      refine T.skip (hK15 _ _ (T.conseq (fr' := [(1, _), (3, _), (5, _), (7, _)]) ?_ ⟨rfl, rfl, rfl, rfl, trivial⟩ (fun _ s => s)))
      refine T.seq fun K17 hK17 => ?_
      refine T.block ?_
      refine T.seq fun K18 hK18 => ?_
      refine T.drawn (fun _ => True) [(0, .pu), (1, .pu), (2, .pu), (3, .pu), (4, .rd), (5, .pu), (6, .pu), (7, .pu), (8, .pu), (9, .rd), (10, .pu), (11, .pu)] mixed (ClE.sat _ _) (by kernel_rfl) ?_
      refine RD.p (fun _ _ => trivial) rfl (Pu.move rfl) rfl rfl ?_
      refine RD.p (fun _ _ => trivial) rfl (Pu.move rfl) rfl rfl ?_
      obtain ⟨g21, H⟩ := gdE H
      refine RD.know (p := ∃ g cap, q5 = (some g, cap)) (fun w s => (s.row_some (k := 1) rfl (pos_of g21))) ?_
      rintro ⟨gg22, cc23, rfl⟩
      refine RD.p (fun _ _ => trivial) rfl (Pu.indexSl sl27 rfl rfl g21) rfl rfl ?_
      refine RD.p (fun _ _ => trivial) rfl (Pu.fieldAddr fd40_0 rfl) rfl rfl ?_
      refine RD.q (fun _ _ => trivial) rfl (Qt.ldF (α := Prt) (Rd.ofRowN 1 rfl) ty3 rfl rfl g21 (by rintro _ _ rfl; rfl)) rfl rfl ?_
      refine RD.p (fun _ _ => trivial) rfl (Pu.move rfl) rfl rfl ?_
      refine RD.p (fun _ _ => trivial) rfl (Pu.move rfl) rfl rfl ?_
      obtain ⟨g24, H⟩ := gdE H
      refine RD.p (fun _ _ => trivial) rfl (Pu.indexSl sl27 rfl rfl g24) rfl rfl ?_
      refine RD.p (fun _ _ => trivial) rfl (Pu.fieldAddr fd40_1 rfl) rfl rfl ?_
      refine RD.q (fun _ _ => trivial) rfl (Qt.ldF (α := Prt) (Rd.ofRowN 1 rfl) ty3 rfl rfl g24 (by rintro _ _ rfl; rfl)) rfl rfl ?_
      refine RD.p (fun _ _ => trivial) rfl (Pu.assign rfl) rfl rfl ?_
      refine RD.p (fun _ _ => trivial) rfl (Pu.assign rfl) rfl rfl ?_
      refine RD.nil (hK18 _ _ (T.conseq (fr' := [(1, _), (3, _), (5, _), (7, _), (8, _), (9, _)]) ?_ ⟨rfl, rfl, rfl, rfl, rfl, rfl, trivial⟩ (fun _ s => s)))
      refine T.seq fun K19 hK19 => ?_
      refine T.seq fun K20 hK20 => ?_
      refine T.drawn (fun _ => True) [(0, .pu), (1, .pu), (2, .pu), (3, .pu), (4, .pu), (5, .pu), (6, .pu), (7, .pu), (8, .pu), (9, .pu), (10, .rd), (11, .pu), (12, .rd), (13, .pu), (14, .pu), (15, .pu), (16, .pu), (17, .pu), (18, .pu), (19, .pu), (20, .pu), (21, .pu), (22, .pu), (23, .pu), (24, .pu), (25, .rd), (26, .pu), (27, .pu), (28, .pu), (29, .pu), (30, .pu), (31, .pu), (32, .pu), (33, .pu), (34, .pu), (35, .pu), (36, .pu), (37, .rd), (38, .pu), (39, .pu), (40, .pu), (41, .pu), (42, .pu), (43, .rd), (44, .pu), (45, .pu), (46, .rd), (47, .pu), (48, .pu), (49, .pu), (50, .pu), (51, .pu), (52, .rd), (53, .pu), (54, .pu), (55, .rd), (56, .pu), (57, .pu), (58, .pu), (59, .pu), (60, .pu), (61, .pu), (62, .pu), (63, .rd), (64, .pu), (65, .pu), (66, .pu), (67, .pu), (68, .pu), (69, .pu), (70, .pu), (71, .rd), (72, .pu), (73, .pu)] mixed (ClE.sat _ _) (by kernel_rfl) ?_
      refine RD.p (fun _ _ => trivial) rfl (Pu.move rfl) rfl rfl ?_
      refine RD.p (fun _ _ => trivial) rfl (Pu.bin rfl rfl rfl) rfl rfl ?_
      refine RD.p (fun _ _ => trivial) rfl (Pu.move rfl) rfl rfl ?_
      refine RD.joinV 4 92 (.bool (decide (((gi x4.1 v18).a < 0) ∨ ((gi x4.1 v18).b ≤ (gi x4.1 v18).a)))) [(1, _), (3, _), (5, _), (7, _), (8, _), (9, _)] ⟨rfl, rfl, rfl, rfl, rfl, rfl, trivial⟩ ?_ ?_
      ·refine RD.p (fun _ _ => trivial) rfl (Pu.move rfl) rfl rfl ?_
       obtain ⟨g29, H⟩ := gdE H
       refine RD.joinV 8 101 (.bool (decide ((((gi x4.1 v18).a < 0) ∨ ((gi x4.1 v18).b ≤ (gi x4.1 v18).a)) ∨ ((a0_p.W * a0_p.H) ≤ (gi x4.1 v18).b)))) [(1, _), (3, _), (5, _), (7, _), (8, _), (9, _)] ⟨rfl, rfl, rfl, rfl, rfl, rfl, trivial⟩ ?_ ?_
       ·refine RD.p (fun _ _ => trivial) rfl (Pu.move rfl) rfl rfl ?_
        obtain ⟨g32, H⟩ := gdE H
        obtain ⟨g33, H⟩ := gdE H
        refine RD.joinV 13 115 (.bool (decide (((((gi x4.1 v18).a < 0) ∨ ((gi x4.1 v18).b ≤ (gi x4.1 v18).a)) ∨ ((a0_p.W * a0_p.H) ≤ (gi x4.1 v18).b)) ∨ ((¬ (gi x4.1 v18).b = (((gi x4.1 v18).a) + 1)) ∧ (¬ (gi x4.1 v18).b = (((gi x4.1 v18).a) + a0_p.W)))))) [(1, _), (3, _), (5, _), (7, _), (8, _), (9, _)] ⟨rfl, rfl, rfl, rfl, rfl, rfl, trivial⟩ ?_ ?_
        ·refine RD.p (fun _ _ => trivial) rfl (Pu.move rfl) rfl rfl ?_
         obtain ⟨g36, H⟩ := gdE H
         obtain ⟨g37, H⟩ := gdE H
         obtain ⟨g38, H⟩ := gdE H
         refine RD.joinV 20 136 (.bool (decide ((((((gi x4.1 v18).a < 0) ∨ ((gi x4.1 v18).b ≤ (gi x4.1 v18).a)) ∨ ((a0_p.W * a0_p.H) ≤ (gi x4.1 v18).b)) ∨ ((¬ (gi x4.1 v18).b = (((gi x4.1 v18).a) + 1)) ∧ (¬ (gi x4.1 v18).b = (((gi x4.1 v18).a) + a0_p.W)))) ∨ ((((gi x4.1 v18).b = (((gi x4.1 v18).a) + 1)) ∧ (1 < a0_p.W)) ∧ ((((gi x4.1 v18).a) % a0_p.W) = (a0_p.W - 1)))))) [(1, _), (3, _), (5, _), (7, _), (8, _), (9, _)] ⟨rfl, rfl, rfl, rfl, rfl, rfl, trivial⟩ ?_ ?_
         ·refine RD.p (fun _ _ => trivial) rfl (Pu.move rfl) rfl rfl ?_
          refine RD.joinB H 6 143 (fun b41 => .bool b41) [(1, _), (3, _), (5, _), (7, _), (8, _), (9, _)] ⟨rfl, rfl, rfl, rfl, rfl, rfl, trivial⟩ ?_ ?_
          ·intro b41 H
           refine RD.p (fun _ _ => trivial) rfl (Pu.move rfl) rfl rfl ?_
           obtain ⟨g44, H⟩ := gdE H
           refine RD.joinV 7 151 (.bool (decide ((b41 = true) ∨ ((gi x4.1 v18).width < 1)))) [(1, _), (3, _), (5, _), (7, _), (8, _), (9, _)] ⟨rfl, rfl, rfl, rfl, rfl, rfl, trivial⟩ ?_ ?_
           ·refine RD.p (fun _ _ => trivial) rfl (Pu.move rfl) rfl rfl ?_
            obtain ⟨g47, H⟩ := gdE H
            refine RD.joinV 7 159 (.bool (decide (((b41 = true) ∨ ((gi x4.1 v18).width < 1)) ∨ (8 < (gi x4.1 v18).width)))) [(1, _), (3, _), (5, _), (7, _), (8, _), (9, _)] ⟨rfl, rfl, rfl, rfl, rfl, rfl, trivial⟩ ?_ ?_
            ·refine RD.nil (hK20 _ _ ?_)
             refine T.condP rfl (fun hc48 => ?_) (fun hc48 => ?_)
             ·have H := ifT hc48 H
              refine T.conseq (fr' := []) ?_ trivial (fun _ s => s)
              refine T.seq fun K21 hK21 => ?_
              refine T.region ?_
              refine RS.p (Pu.assign rfl) rfl rfl ?_
              refine RS.nil (hK21 _ _ ?_)
              obtain rfl := hd10 _ H
              have H := HX10
              obtain rfl := Option.some.inj H
              refine T.rt (Cont.ret1 rfl rfl fun w' s => ?_)
              exact ⟨rfl, s.ext⟩
             ·have H := ifF hc48 H
              refine T.skip (hK19 _ _ ?_)
              refine T.seq fun K22 hK22 => ?_
              refine T.seq fun K23 hK23 => ?_
              refine T.region ?_
              refine RS.p (Pu.move rfl) rfl rfl ?_
              refine RS.p (Pu.bin rfl rfl rfl) rfl rfl ?_
              refine RS.p (Pu.move rfl) rfl rfl ?_
              obtain ⟨g51, H⟩ := gdE H
              obtain ⟨g52, H⟩ := gdE H
              obtain ⟨g53, H⟩ := gdE H
              obtain ⟨g54, H⟩ := gdE H
              obtain ⟨g55, H⟩ := gdE H
              obtain ⟨g56, H⟩ := gdE H
              refine RS.joinV 29 191 (.bool (decide ((0 < v18) ∧ (((gi x4.1 v18).a < (gi x4.1 (v18 - 1)).a) ∨ (((gi x4.1 (v18 - 1)).a = (gi x4.1 v18).a) ∧ ((gi x4.1 v18).b ≤ (gi x4.1 (v18 - 1)).b)))))) [(1, _), (3, _), (5, _), (7, _)] ⟨rfl, rfl, rfl, rfl, trivial⟩ ?_ ?_
              ·refine RS.nil (hK23 _ _ ?_)
               refine T.condP rfl (fun hc57 => ?_) (fun hc57 => ?_)
               ·have H := ifT hc57 H
                refine T.conseq (fr' := []) ?_ trivial (fun _ s => s)
                refine T.seq fun K24 hK24 => ?_
                refine T.region ?_
                refine RS.p (Pu.assign rfl) rfl rfl ?_
                refine RS.nil (hK24 _ _ ?_)
                obtain rfl := hd10 _ H
                have H := HX10
                obtain rfl := Option.some.inj H
                refine T.rt (Cont.ret1 rfl rfl fun w' s => ?_)
                exact ⟨rfl, s.ext⟩
               ·have H := ifF hc57 H
                refine T.skip (hK22 _ _ ?_)
                refine T.region ?_
                refine RS.p (Pu.move rfl) rfl rfl ?_
                refine RS.p (Pu.move rfl) rfl rfl ?_
                refine RS.p (Pu.move rfl) rfl rfl ?_
                obtain ⟨g58, H⟩ := gdE H
                refine RS.p (Pu.indexSl sl27 rfl rfl g58) rfl rfl ?_
                refine RS.p (Pu.fieldAddr fd40_2 rfl) rfl rfl ?_
                refine RS.q (Qt.ldF (α := Prt) (Rd.ofRowN 1 rfl) ty3 rfl rfl g58 (by rintro _ _ rfl; rfl)) rfl rfl ?_
                obtain ⟨g59, H⟩ := gdE H
                refine RS.p (Pu.subS rfl rfl g59) rfl rfl ?_
                refine RS.p (Pu.assign rfl) rfl rfl ?_
                refine RS.nil (hK17 _ _ (T.conseq (fr' := [(1, _), (3, _), (5, _), (7, _)]) ?_ ⟨rfl, rfl, rfl, rfl, trivial⟩ (fun _ s => s)))
                refine T.region ?_
                refine RS.p (Pu.move rfl) rfl rfl ?_
                obtain ⟨g60, H⟩ := gdE H
                refine RS.p (Pu.addS rfl rfl g60) rfl rfl ?_
                refine RS.p (Pu.assign rfl) rfl rfl ?_
                refine RS.nil (hL10 _ _ ((v17 - ((gi x4.1 v18).width)), (v18 + 1)) () H ⟨rfl, rfl, trivial⟩ ⟨rfl, rfl, trivial⟩ (fun w s => s))
              ·intro hJ50
               refine RS.splitP 162 rfl (fun hc49 => ?_) (fun hc49 => ?_)
               ·refine RS.p (Pu.move rfl) rfl rfl ?_
                refine RS.p (Pu.move rfl) rfl rfl ?_
                refine RS.p (Pu.subS rfl rfl (g51 hc49)) rfl rfl ?_
                refine RS.p (Pu.indexSl sl27 rfl rfl (g52 hc49)) rfl rfl ?_
                refine RS.p (Pu.fieldAddr fd40_0 rfl) rfl rfl ?_
                refine RS.q (Qt.ldF (α := Prt) (Rd.ofRowN 1 rfl) ty3 rfl rfl (g52 hc49) (by rintro _ _ rfl; rfl)) rfl rfl ?_
                refine RS.p (Pu.move rfl) rfl rfl ?_
                refine RS.p (Pu.bin rfl rfl rfl) rfl rfl ?_
                refine RS.p (Pu.move rfl) rfl rfl ?_
                refine RS.joinV 19 190 (.bool (decide (((gi x4.1 v18).a < (gi x4.1 (v18 - 1)).a) ∨ (((gi x4.1 (v18 - 1)).a = (gi x4.1 v18).a) ∧ ((gi x4.1 v18).b ≤ (gi x4.1 (v18 - 1)).b))))) [(1, _), (3, _), (5, _), (7, _), (8, _), (9, _), (159, _), (160, _), (161, _), (162, _), (163, _), (164, _), (165, _), (166, _), (167, _), (168, _), (169, _), (170, _)] ⟨rfl, rfl, rfl, rfl, rfl, rfl, rfl, rfl, rfl, rfl, rfl, rfl, rfl, rfl, rfl, rfl, rfl, rfl, trivial⟩ ?_ ?_
                ·refine RS.p (Pu.pickT rfl rfl) rfl rfl ?_
                 exact hJ50 _ _ ⟨dAndT hc49, rfl, rfl, rfl, rfl, trivial⟩ (fun w s => s)
                ·intro hJ62
                 refine RS.splitP 171 rfl (fun hc61 => ?_) (fun hc61 => ?_)
                 ·refine RS.no rfl rfl ?_
                  refine RS.no rfl rfl ?_
                  refine RS.no rfl rfl ?_
                  refine RS.no rfl rfl ?_
                  refine RS.no rfl rfl ?_
                  refine RS.no rfl rfl ?_
                  refine RS.no rfl rfl ?_
                  refine RS.no rfl rfl ?_
                  refine RS.no rfl rfl ?_
                  refine RS.no rfl rfl ?_
                  refine RS.no rfl rfl ?_
                  refine RS.no rfl rfl ?_
                  refine RS.no rfl rfl ?_
                  refine RS.no rfl rfl ?_
                  refine RS.no rfl rfl ?_
                  refine RS.no rfl rfl ?_
                  refine RS.no rfl rfl ?_
                  refine RS.no rfl rfl ?_
                  refine RS.p (Pu.pickT rfl rfl) rfl rfl ?_
                  exact hJ62 _ _ ⟨dOrT hc61, rfl, rfl, rfl, rfl, rfl, rfl, rfl, rfl, rfl, rfl, rfl, rfl, rfl, rfl, rfl, rfl, rfl, rfl, trivial⟩ (fun w s => s)
                 ·refine RS.p (Pu.move rfl) rfl rfl ?_
                  refine RS.p (Pu.move rfl) rfl rfl ?_
                  refine RS.p (Pu.subS rfl rfl ((g53 hc49) hc61)) rfl rfl ?_
                  refine RS.p (Pu.indexSl sl27 rfl rfl ((g54 hc49) hc61)) rfl rfl ?_
                  refine RS.p (Pu.fieldAddr fd40_0 rfl) rfl rfl ?_
                  refine RS.q (Qt.ldF (α := Prt) (Rd.ofRowN 1 rfl) ty3 rfl rfl ((g54 hc49) hc61) (by rintro _ _ rfl; rfl)) rfl rfl ?_
                  refine RS.p (Pu.move rfl) rfl rfl ?_
                  refine RS.p (Pu.bin rfl rfl rfl) rfl rfl ?_
                  refine RS.p (Pu.move rfl) rfl rfl ?_
                  refine RS.joinV 9 189 (.bool (decide (((gi x4.1 (v18 - 1)).a = (gi x4.1 v18).a) ∧ ((gi x4.1 v18).b ≤ (gi x4.1 (v18 - 1)).b)))) [(1, _), (3, _), (5, _), (7, _), (8, _), (9, _), (159, _), (160, _), (161, _), (162, _), (163, _), (164, _), (165, _), (166, _), (167, _), (168, _), (169, _), (170, _), (171, _), (172, _), (173, _), (174, _), (175, _), (176, _), (177, _), (178, _), (179, _)] ⟨rfl, rfl, rfl, rfl, rfl, rfl, rfl, rfl, rfl, rfl, rfl, rfl, rfl, rfl, rfl, rfl, rfl, rfl, rfl, rfl, rfl, rfl, rfl, rfl, rfl, rfl, rfl, trivial⟩ ?_ ?_
                  ·refine RS.p (Pu.pickF rfl rfl) rfl rfl ?_
                   exact hJ62 _ _ ⟨dOrF hc61, rfl, rfl, rfl, rfl, rfl, rfl, rfl, rfl, rfl, rfl, rfl, rfl, rfl, rfl, rfl, rfl, rfl, rfl, trivial⟩ (fun w s => s)
                  ·intro hJ64
                   refine RS.splitP 180 rfl (fun hc63 => ?_) (fun hc63 => ?_)
                   ·refine RS.p (Pu.move rfl) rfl rfl ?_
                    refine RS.p (Pu.move rfl) rfl rfl ?_
                    refine RS.p (Pu.subS rfl rfl (((g55 hc49) hc61) hc63)) rfl rfl ?_
                    refine RS.p (Pu.indexSl sl27 rfl rfl (((g56 hc49) hc61) hc63)) rfl rfl ?_
                    refine RS.p (Pu.fieldAddr fd40_1 rfl) rfl rfl ?_
                    refine RS.q (Qt.ldF (α := Prt) (Rd.ofRowN 1 rfl) ty3 rfl rfl (((g56 hc49) hc61) hc63) (by rintro _ _ rfl; rfl)) rfl rfl ?_
                    refine RS.p (Pu.move rfl) rfl rfl ?_
                    refine RS.p (Pu.bin rfl rfl rfl) rfl rfl ?_
                    refine RS.p (Pu.pickT rfl rfl) rfl rfl ?_
                    exact hJ64 _ _ ⟨dAndT hc63, rfl, rfl, rfl, rfl, rfl, rfl, rfl, rfl, rfl, rfl, rfl, rfl, rfl, rfl, rfl, rfl, rfl, rfl, rfl, rfl, rfl, rfl, rfl, rfl, rfl, rfl, rfl, trivial⟩ (fun w s => s)
                   ·refine RS.no rfl rfl ?_
                    refine RS.no rfl rfl ?_
                    refine RS.no rfl rfl ?_
                    refine RS.no rfl rfl ?_
                    refine RS.no rfl rfl ?_
                    refine RS.no rfl rfl ?_
                    refine RS.no rfl rfl ?_
                    refine RS.no rfl rfl ?_
                    refine RS.p (Pu.pickF rfl rfl) rfl rfl ?_
                    exact hJ64 _ _ ⟨dAndF hc63, rfl, rfl, rfl, rfl, rfl, rfl, rfl, rfl, rfl, rfl, rfl, rfl, rfl, rfl, rfl, rfl, rfl, rfl, rfl, rfl, rfl, rfl, rfl, rfl, rfl, rfl, rfl, trivial⟩ (fun w s => s)
               ·refine RS.no rfl rfl ?_
                refine RS.no rfl rfl ?_
                refine RS.no rfl rfl ?_
                refine RS.no rfl rfl ?_
                refine RS.no rfl rfl ?_
                refine RS.no rfl rfl ?_
                refine RS.no rfl rfl ?_
                refine RS.no rfl rfl ?_
                refine RS.no rfl rfl ?_
                refine RS.no rfl rfl ?_
                refine RS.no rfl rfl ?_
                refine RS.no rfl rfl ?_
                refine RS.no rfl rfl ?_
                refine RS.no rfl rfl ?_
                refine RS.no rfl rfl ?_
                refine RS.no rfl rfl ?_
                refine RS.no rfl rfl ?_
                refine RS.no rfl rfl ?_
                refine RS.no rfl rfl ?_
                refine RS.no rfl rfl ?_
                refine RS.no rfl rfl ?_
                refine RS.no rfl rfl ?_
                refine RS.no rfl rfl ?_
                refine RS.no rfl rfl ?_
                refine RS.no rfl rfl ?_
                refine RS.no rfl rfl ?_
                refine RS.no rfl rfl ?_
                refine RS.no rfl rfl ?_
                refine RS.p (Pu.pickF rfl rfl) rfl rfl ?_
                exact hJ50 _ _ ⟨dAndF hc49, rfl, rfl, rfl, rfl, trivial⟩ (fun w s => s)
            ·intro hJ46
             refine RD.splitP 152 rfl (fun hc45 => ?_) (fun hc45 => ?_)
             ·refine RD.no (fun _ _ => trivial) rfl rfl rfl (.inl rfl) ?_
              refine RD.no (fun _ _ => trivial) rfl rfl rfl (.inl rfl) ?_
              refine RD.no (fun _ _ => trivial) rfl rfl rfl (.inl rfl) ?_
              refine RD.no (fun _ _ => trivial) rfl rfl rfl (.inl rfl) ?_
              refine RD.no (fun _ _ => trivial) rfl rfl rfl (.inr (.inr rfl)) ?_
              refine RD.no (fun _ _ => trivial) rfl rfl rfl (.inl rfl) ?_
              refine RD.p (fun _ _ => trivial) rfl (Pu.pickT rfl rfl) rfl rfl ?_
              exact hJ46 _ ⟨dOrT hc45, rfl, rfl, rfl, rfl, rfl, rfl, trivial⟩
             ·refine RD.p (fun _ _ => trivial) rfl (Pu.move rfl) rfl rfl ?_
              refine RD.p (fun _ _ => trivial) rfl (Pu.move rfl) rfl rfl ?_
              refine RD.p (fun _ _ => trivial) rfl (Pu.indexSl sl27 rfl rfl (g47 hc45)) rfl rfl ?_
              refine RD.p (fun _ _ => trivial) rfl (Pu.fieldAddr fd40_2 rfl) rfl rfl ?_
              refine RD.q (fun _ _ => trivial) rfl (Qt.ldF (α := Prt) (Rd.ofRowN 1 rfl) ty3 rfl rfl (g47 hc45) (by rintro _ _ rfl; rfl)) rfl rfl ?_
              refine RD.p (fun _ _ => trivial) rfl (Pu.bin rfl rfl rfl) rfl rfl ?_
              refine RD.p (fun _ _ => trivial) rfl (Pu.pickF rfl rfl) rfl rfl ?_
              exact hJ46 _ ⟨dOrF hc45, rfl, rfl, rfl, rfl, rfl, rfl, trivial⟩
           ·intro hJ43
            refine RD.split 144 rfl (fun hc42 => ?_) (fun hc42 => ?_)
            ·refine RD.no (fun _ _ => trivial) rfl rfl rfl (.inl rfl) ?_
             refine RD.no (fun _ _ => trivial) rfl rfl rfl (.inl rfl) ?_
             refine RD.no (fun _ _ => trivial) rfl rfl rfl (.inl rfl) ?_
             refine RD.no (fun _ _ => trivial) rfl rfl rfl (.inl rfl) ?_
             refine RD.no (fun _ _ => trivial) rfl rfl rfl (.inr (.inr rfl)) ?_
             refine RD.no (fun _ _ => trivial) rfl rfl rfl (.inl rfl) ?_
             refine RD.p (fun _ _ => trivial) rfl (Pu.pickT rfl rfl) rfl rfl ?_
             exact hJ43 _ ⟨dOrT hc42, rfl, rfl, rfl, rfl, rfl, rfl, trivial⟩
            ·refine RD.p (fun _ _ => trivial) rfl (Pu.move rfl) rfl rfl ?_
             refine RD.p (fun _ _ => trivial) rfl (Pu.move rfl) rfl rfl ?_
             refine RD.p (fun _ _ => trivial) rfl (Pu.indexSl sl27 rfl rfl (g44 (bne_of hc42))) rfl rfl ?_
             refine RD.p (fun _ _ => trivial) rfl (Pu.fieldAddr fd40_2 rfl) rfl rfl ?_
             refine RD.q (fun _ _ => trivial) rfl (Qt.ldF (α := Prt) (Rd.ofRowN 1 rfl) ty3 rfl rfl (g44 (bne_of hc42)) (by rintro _ _ rfl; rfl)) rfl rfl ?_
             refine RD.p (fun _ _ => trivial) rfl (Pu.bin rfl rfl rfl) rfl rfl ?_
             refine RD.p (fun _ _ => trivial) rfl (Pu.pickF rfl rfl) rfl rfl ?_
             exact hJ43 _ ⟨dOrF (bne_of hc42), rfl, rfl, rfl, rfl, rfl, rfl, trivial⟩
          ·intro z65 H hJ40
           refine RD.splitP 137 rfl (fun hc39 => ?_) (fun hc39 => ?_)
           ·have H := ifT hc39 H
            refine RD.no (fun _ _ => trivial) rfl rfl rfl (.inr (.inr rfl)) ?_
            refine RD.no (fun _ _ => trivial) rfl rfl rfl (.inl rfl) ?_
            refine RD.no (fun _ _ => trivial) rfl rfl rfl (.inl rfl) ?_
            refine RD.no (fun _ _ => trivial) rfl rfl rfl (.inr (.inr rfl)) ?_
            refine RD.no (fun _ _ => trivial) rfl rfl rfl (.inl rfl) ?_
            refine RD.p (fun _ _ => trivial) rfl (Pu.pickT rfl rfl) rfl rfl ?_
            obtain rfl := Option.some.inj H
            exact hJ40 _ ⟨rfl, rfl, rfl, rfl, rfl, rfl, rfl, trivial⟩
           ·have H := ifF hc39 H
            refine RD.q (fun _ _ => trivial) rfl (Qt.ldBA (us := [_, _, _, _, _]) 0 ty25 rfl rfl rfl rfl) rfl rfl ?_
            refine RD.p (fun _ _ => trivial) rfl (Pu.move rfl) rfl rfl ?_
            refine RD.p (fun _ _ => trivial) rfl (Pu.move rfl) rfl rfl ?_
            obtain ⟨x66, hx66, H⟩ := bindE H
            refine RD.q (fun _ _ => trivial) rfl (Qt.call (vs := [.agg #[.int .i64 a0_p.W, .int .i64 a0_p.H, .slice p0 a0_p.Free.length c0, .slice p1 a0_p.Ts.length c1, .slice p2 a0_p.Parts.length c2], .int .i64 ((gi x4.1 v18).a), .int .i64 ((gi x4.1 v18).b)]) ent17 rfl fun w s => thronglaw11_apart_walk a0_p ((gi x4.1 v18).a) ((gi x4.1 v18).b) w ((Rd.base h0) w s) ((Rd.base h1) w s) ((Rd.base h2) w s) hx66) rfl rfl ?_
            refine RD.p (fun _ _ => trivial) rfl (Pu.not rfl) rfl rfl ?_
            refine RD.p (fun _ _ => trivial) rfl (Pu.pickF rfl rfl) rfl rfl ?_
            obtain rfl := Option.some.inj H
            exact hJ40 _ ⟨rfl, rfl, rfl, rfl, rfl, rfl, rfl, trivial⟩
         ·intro hJ35
          refine RD.splitP 116 rfl (fun hc34 => ?_) (fun hc34 => ?_)
          ·refine RD.no (fun _ _ => trivial) rfl rfl rfl (.inl rfl) ?_
           refine RD.no (fun _ _ => trivial) rfl rfl rfl (.inl rfl) ?_
           refine RD.no (fun _ _ => trivial) rfl rfl rfl (.inl rfl) ?_
           refine RD.no (fun _ _ => trivial) rfl rfl rfl (.inl rfl) ?_
           refine RD.no (fun _ _ => trivial) rfl rfl rfl (.inl rfl) ?_
           refine RD.no (fun _ _ => trivial) rfl rfl rfl (.inl rfl) ?_
           refine RD.no (fun _ _ => trivial) rfl rfl rfl (.inr (.inr rfl)) ?_
           refine RD.no (fun _ _ => trivial) rfl rfl rfl (.inl rfl) ?_
           refine RD.no (fun _ _ => trivial) rfl rfl rfl (.inl rfl) ?_
           refine RD.no (fun _ _ => trivial) rfl rfl rfl (.inl rfl) ?_
           refine RD.no (fun _ _ => trivial) rfl rfl rfl (.inl rfl) ?_
           refine RD.no (fun _ _ => trivial) rfl rfl rfl (.inl rfl) ?_
           refine RD.no (fun _ _ => trivial) rfl rfl rfl (.inr (.inr rfl)) ?_
           refine RD.no (fun _ _ => trivial) rfl rfl rfl (.inl rfl) ?_
           refine RD.no (fun _ _ => trivial) rfl rfl rfl (.inl rfl) ?_
           refine RD.no (fun _ _ => trivial) rfl rfl rfl (.inr (.inr rfl)) ?_
           refine RD.no (fun _ _ => trivial) rfl rfl rfl (.inl rfl) ?_
           refine RD.no (fun _ _ => trivial) rfl rfl rfl (.inl rfl) ?_
           refine RD.no (fun _ _ => trivial) rfl rfl rfl (.inl rfl) ?_
           refine RD.p (fun _ _ => trivial) rfl (Pu.pickT rfl rfl) rfl rfl ?_
           exact hJ35 _ ⟨dOrT hc34, rfl, rfl, rfl, rfl, rfl, rfl, trivial⟩
          ·refine RD.p (fun _ _ => trivial) rfl (Pu.move rfl) rfl rfl ?_
           refine RD.p (fun _ _ => trivial) rfl (Pu.move rfl) rfl rfl ?_
           refine RD.p (fun _ _ => trivial) rfl (Pu.addS rfl rfl (g36 hc34)) rfl rfl ?_
           refine RD.p (fun _ _ => trivial) rfl (Pu.bin rfl rfl rfl) rfl rfl ?_
           refine RD.p (fun _ _ => trivial) rfl (Pu.move rfl) rfl rfl ?_
           refine RD.joinV 4 125 (.bool (decide (((gi x4.1 v18).b = (((gi x4.1 v18).a) + 1)) ∧ (1 < a0_p.W)))) [(1, _), (3, _), (5, _), (7, _), (8, _), (9, _), (115, _), (116, _), (117, _), (118, _), (119, _), (120, _)] ⟨rfl, rfl, rfl, rfl, rfl, rfl, rfl, rfl, rfl, rfl, rfl, rfl, trivial⟩ ?_ ?_
           ·refine RD.p (fun _ _ => trivial) rfl (Pu.move rfl) rfl rfl ?_
            refine RD.joinV 9 135 (.bool (decide ((((gi x4.1 v18).b = (((gi x4.1 v18).a) + 1)) ∧ (1 < a0_p.W)) ∧ ((((gi x4.1 v18).a) % a0_p.W) = (a0_p.W - 1))))) [(1, _), (3, _), (5, _), (7, _), (8, _), (9, _), (115, _), (116, _), (117, _), (118, _), (119, _), (120, _), (125, _)] ⟨rfl, rfl, rfl, rfl, rfl, rfl, rfl, rfl, rfl, rfl, rfl, rfl, rfl, trivial⟩ ?_ ?_
            ·refine RD.p (fun _ _ => trivial) rfl (Pu.pickF rfl rfl) rfl rfl ?_
             exact hJ35 _ ⟨dOrF hc34, rfl, rfl, rfl, rfl, rfl, rfl, trivial⟩
            ·intro hJ70
             refine RD.splitP 126 rfl (fun hc69 => ?_) (fun hc69 => ?_)
             ·refine RD.p (fun _ _ => trivial) rfl (Pu.move rfl) rfl rfl ?_
              refine RD.p (fun _ _ => trivial) rfl (Pu.fieldAddr fd25_0 rfl) rfl rfl ?_
              refine RD.q (fun _ _ => trivial) rfl (Qt.ldB 0 ty3 rfl rfl rfl) rfl rfl ?_
              refine RD.p (fun _ _ => trivial) rfl (Pu.remN rfl rfl (and3 ((g37 hc34) hc69))) rfl rfl ?_
              refine RD.p (fun _ _ => trivial) rfl (Pu.fieldAddr fd25_0 rfl) rfl rfl ?_
              refine RD.q (fun _ _ => trivial) rfl (Qt.ldB 0 ty3 rfl rfl rfl) rfl rfl ?_
              refine RD.p (fun _ _ => trivial) rfl (Pu.subS rfl rfl ((g38 hc34) hc69)) rfl rfl ?_
              refine RD.p (fun _ _ => trivial) rfl (Pu.bin rfl rfl rfl) rfl rfl ?_
              refine RD.p (fun _ _ => trivial) rfl (Pu.pickT rfl rfl) rfl rfl ?_
              exact hJ70 _ ⟨dAndT hc69, rfl, rfl, rfl, rfl, rfl, rfl, rfl, rfl, rfl, rfl, rfl, rfl, rfl, trivial⟩
             ·refine RD.no (fun _ _ => trivial) rfl rfl rfl (.inl rfl) ?_
              refine RD.no (fun _ _ => trivial) rfl rfl rfl (.inl rfl) ?_
              refine RD.no (fun _ _ => trivial) rfl rfl rfl (.inr (.inr rfl)) ?_
              refine RD.no (fun _ _ => trivial) rfl rfl rfl (.inl rfl) ?_
              refine RD.no (fun _ _ => trivial) rfl rfl rfl (.inl rfl) ?_
              refine RD.no (fun _ _ => trivial) rfl rfl rfl (.inr (.inr rfl)) ?_
              refine RD.no (fun _ _ => trivial) rfl rfl rfl (.inl rfl) ?_
              refine RD.no (fun _ _ => trivial) rfl rfl rfl (.inl rfl) ?_
              refine RD.p (fun _ _ => trivial) rfl (Pu.pickF rfl rfl) rfl rfl ?_
              exact hJ70 _ ⟨dAndF hc69, rfl, rfl, rfl, rfl, rfl, rfl, rfl, rfl, rfl, rfl, rfl, rfl, rfl, trivial⟩
           ·intro hJ68
            refine RD.splitP 121 rfl (fun hc67 => ?_) (fun hc67 => ?_)
            ·refine RD.p (fun _ _ => trivial) rfl (Pu.fieldAddr fd25_0 rfl) rfl rfl ?_
             refine RD.q (fun _ _ => trivial) rfl (Qt.ldB 0 ty3 rfl rfl rfl) rfl rfl ?_
             refine RD.p (fun _ _ => trivial) rfl (Pu.bin rfl rfl rfl) rfl rfl ?_
             refine RD.p (fun _ _ => trivial) rfl (Pu.pickT rfl rfl) rfl rfl ?_
             exact hJ68 _ ⟨dAndT hc67, rfl, rfl, rfl, rfl, rfl, rfl, rfl, rfl, rfl, rfl, rfl, rfl, trivial⟩
            ·refine RD.no (fun _ _ => trivial) rfl rfl rfl (.inl rfl) ?_
             refine RD.no (fun _ _ => trivial) rfl rfl rfl (.inr (.inr rfl)) ?_
             refine RD.no (fun _ _ => trivial) rfl rfl rfl (.inl rfl) ?_
             refine RD.p (fun _ _ => trivial) rfl (Pu.pickF rfl rfl) rfl rfl ?_
             exact hJ68 _ ⟨dAndF hc67, rfl, rfl, rfl, rfl, rfl, rfl, rfl, rfl, rfl, rfl, rfl, rfl, trivial⟩
        ·intro hJ31
         refine RD.splitP 102 rfl (fun hc30 => ?_) (fun hc30 => ?_)
         ·refine RD.no (fun _ _ => trivial) rfl rfl rfl (.inl rfl) ?_
          refine RD.no (fun _ _ => trivial) rfl rfl rfl (.inl rfl) ?_
          refine RD.no (fun _ _ => trivial) rfl rfl rfl (.inl rfl) ?_
          refine RD.no (fun _ _ => trivial) rfl rfl rfl (.inl rfl) ?_
          refine RD.no (fun _ _ => trivial) rfl rfl rfl (.inl rfl) ?_
          refine RD.no (fun _ _ => trivial) rfl rfl rfl (.inl rfl) ?_
          refine RD.no (fun _ _ => trivial) rfl rfl rfl (.inl rfl) ?_
          refine RD.no (fun _ _ => trivial) rfl rfl rfl (.inl rfl) ?_
          refine RD.no (fun _ _ => trivial) rfl rfl rfl (.inr (.inr rfl)) ?_
          refine RD.no (fun _ _ => trivial) rfl rfl rfl (.inl rfl) ?_
          refine RD.no (fun _ _ => trivial) rfl rfl rfl (.inl rfl) ?_
          refine RD.no (fun _ _ => trivial) rfl rfl rfl (.inl rfl) ?_
          refine RD.p (fun _ _ => trivial) rfl (Pu.pickT rfl rfl) rfl rfl ?_
          exact hJ31 _ ⟨dOrT hc30, rfl, rfl, rfl, rfl, rfl, rfl, trivial⟩
         ·refine RD.p (fun _ _ => trivial) rfl (Pu.move rfl) rfl rfl ?_
          refine RD.p (fun _ _ => trivial) rfl (Pu.move rfl) rfl rfl ?_
          refine RD.p (fun _ _ => trivial) rfl (Pu.addS rfl rfl (g32 hc30)) rfl rfl ?_
          refine RD.p (fun _ _ => trivial) rfl (Pu.bin rfl rfl rfl) rfl rfl ?_
          refine RD.p (fun _ _ => trivial) rfl (Pu.move rfl) rfl rfl ?_
          refine RD.joinV 7 114 (.bool (decide ((¬ (gi x4.1 v18).b = (((gi x4.1 v18).a) + 1)) ∧ (¬ (gi x4.1 v18).b = (((gi x4.1 v18).a) + a0_p.W))))) [(1, _), (3, _), (5, _), (7, _), (8, _), (9, _), (101, _), (102, _), (103, _), (104, _), (105, _), (106, _)] ⟨rfl, rfl, rfl, rfl, rfl, rfl, rfl, rfl, rfl, rfl, rfl, rfl, trivial⟩ ?_ ?_
          ·refine RD.p (fun _ _ => trivial) rfl (Pu.pickF rfl rfl) rfl rfl ?_
           exact hJ31 _ ⟨dOrF hc30, rfl, rfl, rfl, rfl, rfl, rfl, trivial⟩
          ·intro hJ72
           refine RD.splitP 107 rfl (fun hc71 => ?_) (fun hc71 => ?_)
           ·refine RD.p (fun _ _ => trivial) rfl (Pu.move rfl) rfl rfl ?_
            refine RD.p (fun _ _ => trivial) rfl (Pu.move rfl) rfl rfl ?_
            refine RD.p (fun _ _ => trivial) rfl (Pu.fieldAddr fd25_0 rfl) rfl rfl ?_
            refine RD.q (fun _ _ => trivial) rfl (Qt.ldB 0 ty3 rfl rfl rfl) rfl rfl ?_
            refine RD.p (fun _ _ => trivial) rfl (Pu.addS rfl rfl ((g33 hc30) hc71)) rfl rfl ?_
            refine RD.p (fun _ _ => trivial) rfl (Pu.bin rfl rfl rfl) rfl rfl ?_
            refine RD.p (fun _ _ => trivial) rfl (Pu.pickT rfl rfl) rfl rfl ?_
            exact hJ72 _ ⟨dAndT hc71, rfl, rfl, rfl, rfl, rfl, rfl, rfl, rfl, rfl, rfl, rfl, rfl, trivial⟩
           ·refine RD.no (fun _ _ => trivial) rfl rfl rfl (.inl rfl) ?_
            refine RD.no (fun _ _ => trivial) rfl rfl rfl (.inl rfl) ?_
            refine RD.no (fun _ _ => trivial) rfl rfl rfl (.inl rfl) ?_
            refine RD.no (fun _ _ => trivial) rfl rfl rfl (.inr (.inr rfl)) ?_
            refine RD.no (fun _ _ => trivial) rfl rfl rfl (.inl rfl) ?_
            refine RD.no (fun _ _ => trivial) rfl rfl rfl (.inl rfl) ?_
            refine RD.p (fun _ _ => trivial) rfl (Pu.pickF rfl rfl) rfl rfl ?_
            exact hJ72 _ ⟨dAndF hc71, rfl, rfl, rfl, rfl, rfl, rfl, rfl, rfl, rfl, rfl, rfl, rfl, trivial⟩
       ·intro hJ28
        refine RD.splitP 93 rfl (fun hc27 => ?_) (fun hc27 => ?_)
        ·refine RD.no (fun _ _ => trivial) rfl rfl rfl (.inl rfl) ?_
         refine RD.no (fun _ _ => trivial) rfl rfl rfl (.inl rfl) ?_
         refine RD.no (fun _ _ => trivial) rfl rfl rfl (.inr (.inr rfl)) ?_
         refine RD.no (fun _ _ => trivial) rfl rfl rfl (.inl rfl) ?_
         refine RD.no (fun _ _ => trivial) rfl rfl rfl (.inr (.inr rfl)) ?_
         refine RD.no (fun _ _ => trivial) rfl rfl rfl (.inl rfl) ?_
         refine RD.no (fun _ _ => trivial) rfl rfl rfl (.inl rfl) ?_
         refine RD.p (fun _ _ => trivial) rfl (Pu.pickT rfl rfl) rfl rfl ?_
         exact hJ28 _ ⟨dOrT hc27, rfl, rfl, rfl, rfl, rfl, rfl, trivial⟩
        ·refine RD.p (fun _ _ => trivial) rfl (Pu.move rfl) rfl rfl ?_
         refine RD.p (fun _ _ => trivial) rfl (Pu.fieldAddr fd25_0 rfl) rfl rfl ?_
         refine RD.q (fun _ _ => trivial) rfl (Qt.ldB 0 ty3 rfl rfl rfl) rfl rfl ?_
         refine RD.p (fun _ _ => trivial) rfl (Pu.fieldAddr fd25_1 rfl) rfl rfl ?_
         refine RD.q (fun _ _ => trivial) rfl (Qt.ldB 0 ty3 rfl rfl rfl) rfl rfl ?_
         refine RD.p (fun _ _ => trivial) rfl (Pu.mulS rfl rfl (g29 hc27)) rfl rfl ?_
         refine RD.p (fun _ _ => trivial) rfl (Pu.bin rfl rfl rfl) rfl rfl ?_
         refine RD.p (fun _ _ => trivial) rfl (Pu.pickF rfl rfl) rfl rfl ?_
         exact hJ28 _ ⟨dOrF hc27, rfl, rfl, rfl, rfl, rfl, rfl, trivial⟩
      ·intro hJ26
       refine RD.splitP 88 rfl (fun hc25 => ?_) (fun hc25 => ?_)
       ·refine RD.no (fun _ _ => trivial) rfl rfl rfl (.inl rfl) ?_
        refine RD.no (fun _ _ => trivial) rfl rfl rfl (.inl rfl) ?_
        refine RD.no (fun _ _ => trivial) rfl rfl rfl (.inl rfl) ?_
        refine RD.p (fun _ _ => trivial) rfl (Pu.pickT rfl rfl) rfl rfl ?_
        exact hJ26 _ ⟨dOrT hc25, rfl, rfl, rfl, rfl, rfl, rfl, trivial⟩
       ·refine RD.p (fun _ _ => trivial) rfl (Pu.move rfl) rfl rfl ?_
        refine RD.p (fun _ _ => trivial) rfl (Pu.move rfl) rfl rfl ?_
        refine RD.p (fun _ _ => trivial) rfl (Pu.bin rfl rfl rfl) rfl rfl ?_
        refine RD.p (fun _ _ => trivial) rfl (Pu.pickF rfl rfl) rfl rfl ?_
        exact hJ26 _ ⟨dOrF hc25, rfl, rfl, rfl, rfl, rfl, rfl, trivial⟩
     ·have H := ifF hc20 H
      obtain rfl := hd10 _ H
      refine T.xt (hJ10 _ _ v17 () HX10 trivial ⟨rfl, trivial⟩ (fun w s => s))
   ·intro z8 hz8 HX8 hJ8
    refine T.block ?_
    refine T.loopA (γ := Unit) hz8 [(1, _), (3, _)] (fun (v73, v74) _ => [(5, .int .i64 v73), (6, .int .i64 v74)]) (fun (v73, v74) _ => Sat w [blk b1 [.int .i64 a0_p.W, .int .i64 a0_p.H, .slice p0 a0_p.Free.length c0, .slice p1 a0_p.Ts.length c1, .slice p2 a0_p.Parts.length c2] 25, row nilH 40 (rowV q5 x4.1.length) x4.1]) () ⟨rfl, rfl, trivial⟩ ⟨rfl, rfl, trivial⟩ (fun w s => s) ?_
    rintro ⟨v73, v74⟩ ⟨⟩ y75 H hd8 KL8 hL8
    try dsimp only [Ex.then] at H
    refine T.conseq (fr' := [(5, _), (6, _), (1, _), (3, _)]) ?_ ⟨rfl, rfl, rfl, rfl, trivial⟩ (fun _ s => s)
    refine T.seq fun K25 hK25 => ?_
    refine T.seq fun K26 hK26 => ?_
    refine T.region ?_
    refine RS.p (Pu.move rfl) rfl rfl ?_
    refine RS.p (Pu.fieldAddr fd25_0 rfl) rfl rfl ?_
    refine RS.q (Qt.ldB 0 ty3 rfl rfl rfl) rfl rfl ?_
    refine RS.p (Pu.fieldAddr fd25_1 rfl) rfl rfl ?_
    refine RS.q (Qt.ldB 0 ty3 rfl rfl rfl) rfl rfl ?_
    obtain ⟨g76, H⟩ := gdE H
    refine RS.p (Pu.mulS rfl rfl g76) rfl rfl ?_
    refine RS.p (Pu.bin rfl rfl rfl) rfl rfl ?_
    refine RS.nil (hK26 _ _ ?_)
    refine T.condP rfl (fun hc77 => ?_) (fun hc77 => ?_)
    ·have H := ifT hc77 H
     refine T.skip (hK25 _ _ (T.conseq (fr' := [(1, _), (3, _), (5, _), (6, _)]) ?_ ⟨rfl, rfl, rfl, rfl, trivial⟩ (fun _ s => s)))
     refine T.seq fun K27 hK27 => ?_
     refine T.block ?_
     refine T.seq fun K28 hK28 => ?_
     refine T.seq fun K29 hK29 => ?_
     refine T.drawn (fun _ => True) [(0, .pu), (1, .pu), (2, .rd), (3, .pu), (4, .pu), (5, .rd), (6, .pu), (7, .pu), (8, .pu), (9, .rd), (10, .pu), (11, .pu), (12, .pu), (13, .rd), (14, .pu)] mixed (ClE.sat _ _) (by kernel_rfl) ?_
     refine RD.p (fun _ _ => trivial) rfl (Pu.move rfl) rfl rfl ?_
     refine RD.p (fun _ _ => trivial) rfl (Pu.fieldAddr fd25_0 rfl) rfl rfl ?_
     refine RD.q (fun _ _ => trivial) rfl (Qt.ldB 0 ty3 rfl rfl rfl) rfl rfl ?_
     obtain ⟨g78, H⟩ := gdE H
     refine RD.p (fun _ _ => trivial) rfl (Pu.remN rfl rfl (and3 g78)) rfl rfl ?_
     refine RD.p (fun _ _ => trivial) rfl (Pu.fieldAddr fd25_0 rfl) rfl rfl ?_
     refine RD.q (fun _ _ => trivial) rfl (Qt.ldB 0 ty3 rfl rfl rfl) rfl rfl ?_
     obtain ⟨g79, H⟩ := gdE H
     refine RD.p (fun _ _ => trivial) rfl (Pu.subS rfl rfl g79) rfl rfl ?_
     refine RD.p (fun _ _ => trivial) rfl (Pu.bin rfl rfl rfl) rfl rfl ?_
     refine RD.p (fun _ _ => trivial) rfl (Pu.move rfl) rfl rfl ?_
     refine RD.joinB H 6 48 (fun b82 => .bool b82) [(1, _), (3, _), (5, _), (6, _)] ⟨rfl, rfl, rfl, rfl, trivial⟩ ?_ ?_
     ·intro b82 H
      refine RD.nil (hK29 _ _ ?_)
      refine T.joinE (σ := Int) (γ := Unit) H (fun s => s) [(1, _), (3, _), (6, _)] ⟨rfl, rfl, rfl, trivial⟩ (fun v84 _ => [(5, .int .i64 v84)]) (fun v84 _ => Sat w [blk b1 [.int .i64 a0_p.W, .int .i64 a0_p.H, .slice p0 a0_p.Free.length c0, .slice p1 a0_p.Ts.length c1, .slice p2 a0_p.Parts.length c2] 25, row nilH 40 (rowV q5 x4.1.length) x4.1]) ?_ ?_
      ·rintro v84 ⟨⟩ H
       try dsimp only [Ex.then] at H
       refine Cont.conseq (fr' := [(5, _), (1, _), (3, _), (6, _)]) ?_ ⟨rfl, rfl, rfl, rfl, trivial⟩ (fun _ s => s)
       refine id (hK28 _ _ ?_)
       refine T.seq fun K30 hK30 => ?_
       refine T.drawn (fun _ => True) [(0, .pu), (1, .pu), (2, .rd), (3, .pu), (4, .pu), (5, .rd), (6, .pu), (7, .pu), (8, .pu), (9, .rd), (10, .pu), (11, .pu), (12, .pu), (13, .rd), (14, .pu), (15, .rd), (16, .pu)] mixed (ClE.sat _ _) (by kernel_rfl) ?_
       refine RD.p (fun _ _ => trivial) rfl (Pu.move rfl) rfl rfl ?_
       refine RD.p (fun _ _ => trivial) rfl (Pu.fieldAddr fd25_0 rfl) rfl rfl ?_
       refine RD.q (fun _ _ => trivial) rfl (Qt.ldB 0 ty3 rfl rfl rfl) rfl rfl ?_
       obtain ⟨g85, H⟩ := gdE H
       refine RD.p (fun _ _ => trivial) rfl (Pu.quoN rfl rfl g85) rfl rfl ?_
       refine RD.p (fun _ _ => trivial) rfl (Pu.fieldAddr fd25_1 rfl) rfl rfl ?_
       refine RD.q (fun _ _ => trivial) rfl (Qt.ldB 0 ty3 rfl rfl rfl) rfl rfl ?_
       obtain ⟨g86, H⟩ := gdE H
       refine RD.p (fun _ _ => trivial) rfl (Pu.subS rfl rfl g86) rfl rfl ?_
       refine RD.p (fun _ _ => trivial) rfl (Pu.bin rfl rfl rfl) rfl rfl ?_
       refine RD.p (fun _ _ => trivial) rfl (Pu.move rfl) rfl rfl ?_
       refine RD.joinB H 8 67 (fun b89 => .bool b89) [(1, _), (3, _), (5, _), (6, _)] ⟨rfl, rfl, rfl, rfl, trivial⟩ ?_ ?_
       ·intro b89 H
        refine RD.nil (hK30 _ _ ?_)
        refine T.cond rfl (fun hc90 => ?_) (fun hc90 => ?_)
        ·have H := ifT hc90 H
         refine T.region ?_
         refine RS.p (Pu.move rfl) rfl rfl ?_
         obtain ⟨g91, H⟩ := gdE H
         refine RS.p (Pu.addS rfl rfl g91) rfl rfl ?_
         refine RS.p (Pu.assign rfl) rfl rfl ?_
         refine RS.nil (hK27 _ _ (T.conseq (fr' := [(1, _), (3, _), (5, _), (6, _)]) ?_ ⟨rfl, rfl, rfl, rfl, trivial⟩ (fun _ s => s)))
         refine T.region ?_
         refine RS.p (Pu.move rfl) rfl rfl ?_
         obtain ⟨g92, H⟩ := gdE H
         refine RS.p (Pu.addS rfl rfl g92) rfl rfl ?_
         refine RS.p (Pu.assign rfl) rfl rfl ?_
         refine RS.nil (hL8 _ _ ((v84 + 1), (v74 + 1)) () H ⟨rfl, rfl, trivial⟩ ⟨rfl, rfl, trivial⟩ (fun w s => s))
        ·have H := ifB hc90 H
         refine T.skip (hK27 _ _ ?_)
         refine T.region ?_
         refine RS.p (Pu.move rfl) rfl rfl ?_
         obtain ⟨g93, H⟩ := gdE H
         refine RS.p (Pu.addS rfl rfl g93) rfl rfl ?_
         refine RS.p (Pu.assign rfl) rfl rfl ?_
         refine RS.nil (hL8 _ _ (v84, (v74 + 1)) () H ⟨rfl, rfl, trivial⟩ ⟨rfl, rfl, trivial⟩ (fun w s => s))
       ·intro z94 H hJ88
        refine RD.splitP 59 rfl (fun hc87 => ?_) (fun hc87 => ?_)
        ·have H := ifT hc87 H
         refine RD.q (fun _ _ => trivial) rfl (Qt.ldBA (us := [_, _, _, _, _]) 0 ty25 rfl rfl rfl rfl) rfl rfl ?_
         refine RD.p (fun _ _ => trivial) rfl (Pu.move rfl) rfl rfl ?_
         refine RD.p (fun _ _ => trivial) rfl (Pu.move rfl) rfl rfl ?_
         refine RD.p (fun _ _ => trivial) rfl (Pu.fieldAddr fd25_0 rfl) rfl rfl ?_
         refine RD.q (fun _ _ => trivial) rfl (Qt.ldB 0 ty3 rfl rfl rfl) rfl rfl ?_
         obtain ⟨g95, H⟩ := gdE H
         refine RD.p (fun _ _ => trivial) rfl (Pu.addS rfl rfl g95) rfl rfl ?_
         obtain ⟨x96, hx96, H⟩ := bindE H
         refine RD.q (fun _ _ => trivial) rfl (Qt.call (vs := [.agg #[.int .i64 a0_p.W, .int .i64 a0_p.H, .slice p0 a0_p.Free.length c0, .slice p1 a0_p.Ts.length c1, .slice p2 a0_p.Parts.length c2], .int .i64 v74, .int .i64 (v74 + a0_p.W)]) ent17 rfl fun w s => thronglaw11_apart_walk a0_p v74 (v74 + a0_p.W) w ((Rd.base h0) w s) ((Rd.base h1) w s) ((Rd.base h2) w s) hx96) rfl rfl ?_
         refine RD.p (fun _ _ => trivial) rfl (Pu.pickT rfl rfl) rfl rfl ?_
         obtain rfl := Option.some.inj H
         exact hJ88 _ ⟨rfl, rfl, rfl, rfl, rfl, trivial⟩
        ·have H := ifF hc87 H
         refine RD.no (fun _ _ => trivial) rfl rfl rfl (.inr (.inr rfl)) ?_
         refine RD.no (fun _ _ => trivial) rfl rfl rfl (.inl rfl) ?_
         refine RD.no (fun _ _ => trivial) rfl rfl rfl (.inl rfl) ?_
         refine RD.no (fun _ _ => trivial) rfl rfl rfl (.inl rfl) ?_
         refine RD.no (fun _ _ => trivial) rfl rfl rfl (.inr (.inr rfl)) ?_
         refine RD.no (fun _ _ => trivial) rfl rfl rfl (.inl rfl) ?_
         refine RD.no (fun _ _ => trivial) rfl rfl rfl (.inr (.inr rfl)) ?_
         refine RD.p (fun _ _ => trivial) rfl (Pu.pickF rfl rfl) rfl rfl ?_
         obtain rfl := Option.some.inj H
         exact hJ88 _ ⟨rfl, rfl, rfl, rfl, rfl, trivial⟩
      ·intro z83 H HX83 hJ83
       refine T.cond rfl (fun hc97 => ?_) (fun hc97 => ?_)
       ·have H := ifT hc97 H
        refine T.region ?_
        refine RS.p (Pu.move rfl) rfl rfl ?_
        obtain ⟨g98, H⟩ := gdE H
        refine RS.p (Pu.addS rfl rfl g98) rfl rfl ?_
        refine RS.p (Pu.assign rfl) rfl rfl ?_
        obtain rfl := Option.some.inj H
        refine RS.nil (hJ83 _ _ (v73 + 1) () HX83 ⟨rfl, rfl, rfl, trivial⟩ ⟨rfl, trivial⟩ (fun w s => s))
       ·have H := ifB hc97 H
        obtain rfl := Option.some.inj H
        refine T.skip (hJ83 _ _ v73 () HX83 ⟨rfl, rfl, rfl, trivial⟩ ⟨rfl, trivial⟩ (fun w s => s))
     ·intro z99 H hJ81
      refine RD.splitP 42 rfl (fun hc80 => ?_) (fun hc80 => ?_)
      ·have H := ifT hc80 H
       refine RD.q (fun _ _ => trivial) rfl (Qt.ldBA (us := [_, _, _, _, _]) 0 ty25 rfl rfl rfl rfl) rfl rfl ?_
       refine RD.p (fun _ _ => trivial) rfl (Pu.move rfl) rfl rfl ?_
       refine RD.p (fun _ _ => trivial) rfl (Pu.move rfl) rfl rfl ?_
       obtain ⟨g100, H⟩ := gdE H
       refine RD.p (fun _ _ => trivial) rfl (Pu.addS rfl rfl g100) rfl rfl ?_
       obtain ⟨x101, hx101, H⟩ := bindE H
       refine RD.q (fun _ _ => trivial) rfl (Qt.call (vs := [.agg #[.int .i64 a0_p.W, .int .i64 a0_p.H, .slice p0 a0_p.Free.length c0, .slice p1 a0_p.Ts.length c1, .slice p2 a0_p.Parts.length c2], .int .i64 v74, .int .i64 (v74 + 1)]) ent17 rfl fun w s => thronglaw11_apart_walk a0_p v74 (v74 + 1) w ((Rd.base h0) w s) ((Rd.base h1) w s) ((Rd.base h2) w s) hx101) rfl rfl ?_
       refine RD.p (fun _ _ => trivial) rfl (Pu.pickT rfl rfl) rfl rfl ?_
       obtain rfl := Option.some.inj H
       exact hJ81 _ ⟨rfl, rfl, rfl, rfl, rfl, trivial⟩
      ·have H := ifF hc80 H
       refine RD.no (fun _ _ => trivial) rfl rfl rfl (.inr (.inr rfl)) ?_
       refine RD.no (fun _ _ => trivial) rfl rfl rfl (.inl rfl) ?_
       refine RD.no (fun _ _ => trivial) rfl rfl rfl (.inl rfl) ?_
       refine RD.no (fun _ _ => trivial) rfl rfl rfl (.inl rfl) ?_
       refine RD.no (fun _ _ => trivial) rfl rfl rfl (.inr (.inr rfl)) ?_
       refine RD.p (fun _ _ => trivial) rfl (Pu.pickF rfl rfl) rfl rfl ?_
       obtain rfl := Option.some.inj H
       exact hJ81 _ ⟨rfl, rfl, rfl, rfl, rfl, trivial⟩
    ·have H := ifF hc77 H
     obtain rfl := hd8 _ H
     refine T.xt (hJ8 _ _ v73 () HX8 ⟨rfl, rfl, trivial⟩ ⟨rfl, trivial⟩ (fun w s => s))
end Go.Proofs.Ytddicdmleeaihaa
