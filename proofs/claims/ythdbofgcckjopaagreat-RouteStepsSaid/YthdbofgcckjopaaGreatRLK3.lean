/-
  Walk of RouteSteps.
-/
import Derived.Test.YthdbofgcckjopaaGreatRows
import Derived.Test.YthdbofgcckjopaaGreatW3
import Derived.Test.YthdbofgcckjopaaGreatRLH
import Derived.Test.YthdbofgcckjopaaGreatRLG3
set_option linter.unusedVariables false
set_option linter.unusedSimpArgs false
set_option maxRecDepth 20000
set_option maxHeartbeats 4000000
namespace Go.Proofs.YthdbofgcckjopaaGreat
open Go.Vg
open Enc (R)
theorem ent14 : Ent Tryz.prog 14 := ⟨_, _, Tryz.func14, by kernel_rfl, rfl⟩
theorem ent23 : Ent Tryz.prog 23 := ⟨_, _, Tryz.func23, by kernel_rfl, rfl⟩
theorem ent29 : Ent Tryz.prog 29 := ⟨_, _, Tryz.func29, by kernel_rfl, rfl⟩
theorem ent30 : Ent Tryz.prog 30 := ⟨_, _, Tryz.func30, by kernel_rfl, rfl⟩
theorem ent31 : Ent Tryz.prog 31 := ⟨_, _, Tryz.func31, by kernel_rfl, rfl⟩
theorem ent33 : Ent Tryz.prog 33 := ⟨_, _, Tryz.func33, by kernel_rfl, rfl⟩
theorem fd39_2 : fdOff Tryz.prog 39 2 = some 4 := by kernel_rfl
theorem fd39_3 : fdOff Tryz.prog 39 3 = some 5 := by kernel_rfl
theorem ty39 : tySz Tryz.prog 39 = some (7, true) := by kernel_rfl
theorem thronglaw14_RouteSteps_walk (a0_p : Ask13) (w : World) {v0 v1 v2 : Value} (h0 : R (hpOf w) a0_p.g.tiles [v0]) (h1 : R (hpOf w) a0_p.l [v1]) (h2 : R (hpOf w) a0_p.ts [v2]) {r : Bool} (H : thronglaw14_RouteSteps a0_p = some r) : Calls Tryz.prog 6 #[.agg #[.int .i64 a0_p.g.w, .int .i64 a0_p.g.h, v0, v1, .int .i64 a0_p.cls, .int .i64 a0_p.size, v2]] w fun e w' => e = .returned (.bool r) ∧ Ext w w' := by
 have hm0 := R_max h0
 obtain ⟨p0, c0, rfl⟩ := R_form h0
 have hm1 := R_max h1
 obtain ⟨p1, c1, rfl⟩ := R_form h1
 have hm2 := R_max h2
 obtain ⟨p2, c2, rfl⟩ := R_form h2
 unfold thronglaw14_RouteSteps at H
 refine T.enter (args := [_]) (S := Sat w []) Tryz.func6 rfl rfl (Sat.start w) ?_
 refine T.seq fun K1 hK1 => T.region (RS.solid (Sd.box (cs := [_, _, _, _, _, _, _]) rfl rfl) rfl rfl fun b1 => rA rfl (RS.nil (hK1 _ _ ?_)))
 refine T.seq fun K2 hK2 => T.seq fun K3 hK3 => T.region (rq (Qt.ldBA (us := [_, _, _, _, _, _, _]) 0 ty39 rfl rfl rfl rfl) ?_)
 obtain ⟨x2, hx2, H⟩ := bindE H
 refine rq (Qt.call (vs := [.agg #[.int .i64 a0_p.g.w, .int .i64 a0_p.g.h, .slice p0 a0_p.g.tiles.length c0, .slice p1 a0_p.l.length c1, .int .i64 a0_p.cls, .int .i64 a0_p.size, .slice p2 a0_p.ts.length c2]]) ent23 rfl fun w s => thronglaw13_Heavy_walk a0_p w ((Rd.base h0) w s) ((Rd.base h1) w s) ((Rd.base h2) w s) hx2) (rM rfl ?_)
 refine RS.joinB H 11 27 (fun b5 => .bool b5) [(1, _)] ⟨rfl, trivial⟩ ?_ ?_
 ·intro b5 H
  refine RS.nil (hK3 _ _ ?_)
  refine T.cond rfl (fun hc6 => ?_) (fun hc6 => ?_)
  ·have H := ifT hc6 H
   refine T.seq fun K4 hK4 => T.region (rA rfl (RS.nil (hK4 _ _ ?_)))
   obtain rfl := sj H
   refine T.rt (Cont.ret1 rfl rfl fun w' s => ?_)
   exact ⟨rfl, s.ext⟩
  ·have H := ifB hc6 H
   refine T.skip (hK2 _ _ ?_)
   refine T.seq fun K5 hK5 => T.region (rp (Pu.fieldAddr fd39_0 rfl) (rq (Qt.ldBA (us := [_, _, _]) 0 ty36 rfl rfl rfl rfl) (rp (Pu.fieldAddr fd39_1 rfl) (rq (Qt.ldB 0 ty37 rfl rfl rfl) (rp (Pu.fieldAddr fd39_2 rfl) (rq (Qt.ldB 0 ty3 rfl rfl rfl) (rp (Pu.fieldAddr fd39_3 rfl) (rq (Qt.ldB 0 ty3 rfl rfl rfl) ?_))))))))
   obtain ⟨x7, hx7, H⟩ := bindE H
   refine RS.solid (Sd.callN (vs := [.agg #[.int .i64 a0_p.g.w, .int .i64 a0_p.g.h, .slice p0 a0_p.g.tiles.length c0], .slice p1 a0_p.l.length c1, .int .i64 a0_p.cls, .int .i64 a0_p.size]) ent30 rfl (fun w s => field_Good_walk a0_p.g a0_p.l a0_p.cls a0_p.size w ((Rd.base h0) w s) ((Rd.base h1) w s) hx7)) rfl rfl fun q8 => rM rfl (rp (Pu.extract rfl rfl) (rp (Pu.extract rfl rfl) (rA rfl (rA rfl (RS.nil (hK5 _ _ (cq [(1, _), (3, _), (4, _)] ?_)))))))
   refine T.seq fun K6 hK6 => T.seq fun K7 hK7 => T.region (rM rfl ?_)
   obtain ⟨x9, hx9, H⟩ := bindE H
   refine rq (Qt.call (vs := [.int .i64 x7.2]) ent26 rfl fun w s => thronglaw14_num_walk x7.2 w  hx9) (rp (Pu.bin rfl rfl rfl) (RS.nil (hK7 _ _ ?_)))
   refine T.condP rfl (fun hc10 => ?_) (fun hc10 => ?_)
   ·have H := ifT hc10 H
    refine cq [] ?_
    refine T.seq fun K8 hK8 => T.region (rA rfl (RS.nil (hK8 _ _ ?_)))
    obtain rfl := sj H
    refine T.rt (Cont.ret1 rfl rfl fun w' s => ?_)
    exact ⟨rfl, s.ext⟩
   ·have H := ifF hc10 H
    refine T.skip (hK6 _ _ (cq [(1, _), (3, _)] ?_))
    refine T.seq fun K9 hK9 => T.region (rp (Pu.fieldAddr fd39_0 rfl) (rp (Pu.fieldAddr fd36_0 rfl) (rq (Qt.ldB 0 ty3 rfl rfl rfl) (rp (Pu.fieldAddr fd39_0 rfl) (rp (Pu.fieldAddr fd36_1 rfl) (rq (Qt.ldB 0 ty3 rfl rfl rfl) (rM rfl ?_)))))))
    obtain ⟨x11, hx11, H⟩ := bindE H
    refine RS.solid (Sd.callN (vs := [.int .i64 a0_p.g.w, .int .i64 a0_p.g.h, rowV q8 x7.1.length]) ent31 rfl (fun w s => portal_Find_walk a0_p.g.w a0_p.g.h x7.1 w ((Rd.ofRowN 1 rfl) w s) hx11)) rfl rfl fun q12 => rM rfl (rp (Pu.extract rfl rfl) (rp (Pu.extract rfl rfl) (rA rfl (rA rfl (RS.nil (hK9 _ _ (cq [(1, _), (5, _), (6, _)] ?_)))))))
    refine T.seq fun K10 hK10 => T.seq fun K11 hK11 => T.region (rM rfl ?_)
    obtain ⟨x13, hx13, H⟩ := bindE H
    refine rq (Qt.call (vs := [.int .i64 x11.2]) ent26 rfl fun w s => thronglaw14_num_walk x11.2 w  hx13) (rp (Pu.bin rfl rfl rfl) (RS.nil (hK11 _ _ ?_)))
    refine T.condP rfl (fun hc14 => ?_) (fun hc14 => ?_)
    ·have H := ifT hc14 H
     refine cq [] ?_
     refine T.seq fun K12 hK12 => T.region (rA rfl (RS.nil (hK12 _ _ ?_)))
     obtain rfl := sj H
     refine T.rt (Cont.ret1 rfl rfl fun w' s => ?_)
     exact ⟨rfl, s.ext⟩
    ·have H := ifF hc14 H
     refine T.skip (hK10 _ _ (cq [(1, _), (5, _)] ?_))
     refine T.seq fun K13 hK13 => T.seq fun K14 hK14 => T.region (rA rfl (RS.nil (hK14 _ _ ?_)))
     refine T.joinE (σ := Unit) (γ := Unit) H Ex.go [] trivial (fun _ _ => []) (fun _ _ => Sat w [blk b1 [.int .i64 a0_p.g.w, .int .i64 a0_p.g.h, .slice p0 a0_p.g.tiles.length c0, .slice p1 a0_p.l.length c1, .int .i64 a0_p.cls, .int .i64 a0_p.size, .slice p2 a0_p.ts.length c2] 39, row nilH 4 (rowV q8 x7.1.length) x7.1, row nilH 67 (rowV q12 x11.1.length) x11.1]) ?_ ?_
     ·rintro ⟨⟩ ⟨⟩ H
      try dsimp only [Ex.then] at H
      refine Cont.conseq (fr' := []) ?_ trivial (fun _ s => s)
      refine id (hK13 _ _ ?_)
      refine T.seq fun K15 hK15 => T.region ?_
      obtain ⟨x16, hx16, H⟩ := bindE H
      refine rq (Qt.call (vs := []) ent29 rfl fun w s => thronglaw14_wakes_walk  w  hx16) (rA rfl (RS.nil (hK15 _ _ ?_)))
      obtain rfl := sj H
      refine T.rt (Cont.ret1 rfl rfl fun w' s => ?_)
      exact ⟨rfl, s.ext⟩
     ·intro z15 hz15 HX15 hJ15
      refine T.block ?_
      refine T.loopA (γ := Unit) hz15 [(1, _), (5, _)] (fun v17 _ => [(7, .int .i64 v17)]) (fun v17 _ => Sat w [blk b1 [.int .i64 a0_p.g.w, .int .i64 a0_p.g.h, .slice p0 a0_p.g.tiles.length c0, .slice p1 a0_p.l.length c1, .int .i64 a0_p.cls, .int .i64 a0_p.size, .slice p2 a0_p.ts.length c2] 39, row nilH 4 (rowV q8 x7.1.length) x7.1, row nilH 67 (rowV q12 x11.1.length) x11.1]) () ⟨rfl, rfl, trivial⟩ ⟨rfl, trivial⟩ (fun w s => s) ?_
      rintro v17 ⟨⟩ y18 H hd15 KL15 hL15
      try dsimp only [Ex.then] at H
      refine cq [(7, _), (1, _), (5, _)] ?_
      refine T.seq fun K16 hK16 => T.seq fun K17 hK17 => T.region (rM rfl ?_)
      obtain ⟨g19, H⟩ := gdE H
      refine rp (Pu.addS rfl rfl g19) (rp (Pu.fieldAddr fd39_4 rfl) (rq (Qt.ldB 0 ty23 rfl rfl rfl) (rp (Pu.lenSl sl23 rfl) (rp (Pu.bin rfl rfl rfl) (rM rfl ?_)))))
      refine RS.joinV 3 66 (.bool (decide (((v17 + 1) < (a0_p.ts.length : Int)) ∧ (v17 < 4)))) [(1, _), (5, _), (7, _)] ⟨rfl, rfl, rfl, trivial⟩ ?_ ?_
      ·refine RS.nil (hK17 _ _ ?_)
       refine T.condP rfl (fun hc22 => ?_) (fun hc22 => ?_)
       ·have H := ifT hc22 H
        refine T.skip (hK16 _ _ ?_)
        refine T.seq fun K18 hK18 => T.block ?_
        refine T.joinA (σ := Int × Int × List Int × List Int) (γ := Nat × (Option Nat × Nat) × (Option Nat × Nat)) H (fun s => s) [(1, _), (5, _), (7, _)] ⟨rfl, rfl, rfl, trivial⟩ (fun (v25, v26, v27, v29) (q24, q28, q30) => [(8, .pointer (some ⟨q24, 0, none⟩)), (9, .int .i64 v26)]) (fun (v25, v26, v27, v29) (q24, q28, q30) => Sat w [blk b1 [.int .i64 a0_p.g.w, .int .i64 a0_p.g.h, .slice p0 a0_p.g.tiles.length c0, .slice p1 a0_p.l.length c1, .int .i64 a0_p.cls, .int .i64 a0_p.size, .slice p2 a0_p.ts.length c2] 39, row nilH 4 (rowV q8 x7.1.length) x7.1, row nilH 67 (rowV q12 x11.1.length) x11.1, blk q24 [.int .i64 v25, rowV q28 v27.length, rowV q30 v29.length] 52, row nilH 3 (rowV q28 v27.length) v27, row nilH 3 (rowV q30 v29.length) v29]) ?_ ?_
        ·rintro ⟨v25, v26, v27, v29⟩ ⟨q24, q28, q30⟩ H
         try dsimp only [Ex.then] at H
         refine cq [(8, _), (9, _), (1, _), (5, _), (7, _)] ?_
         refine T.seq fun K20 hK20 => T.seq fun K21 hK21 => T.region (rM rfl ?_)
         obtain ⟨x31, hx31, H⟩ := bindE H
         refine rq (Qt.call (vs := [.int .i64 v26]) ent26 rfl fun w s => thronglaw14_num_walk v26 w  hx31) (rp (Pu.bin rfl rfl rfl) (RS.nil (hK21 _ _ ?_)))
         refine T.condP rfl (fun hc32 => ?_) (fun hc32 => ?_)
         ·have H := ifT hc32 H
          refine T.xt (hK18 _ _ (cq [(1, _), (5, _), (7, _)] ?_))
          refine T.region (rM rfl ?_)
          obtain ⟨g33, H⟩ := gdE H
          refine rp (Pu.addS rfl rfl g33) (rA rfl (RS.nil (hL15 _ _ (v17 + 1) () H ⟨rfl, rfl, trivial⟩ ⟨rfl, trivial⟩ (fun w s => s.pick [0, 1, 2] (by decide) rfl))))
         ·have H := ifF hc32 H
          refine T.skip (hK20 _ _ (cq [(1, _), (5, _), (7, _), (8, _)] ?_))
          refine T.seq fun K22 hK22 => T.seq fun K23 hK23 => ?_
          refine T.drawn (fun _ => True) [(0, .pu), (1, .rd), (2, .pu), (3, .pu), (4, .rd), (5, .pu), (6, .pu), (7, .pu), (8, .pu), (9, .pu), (10, .rd), (11, .pu), (12, .rd), (13, .pu), (14, .pu), (15, .rd), (16, .pu), (17, .rd), (18, .pu), (19, .pu), (20, .rd), (21, .rd), (22, .pu), (23, .pu), (24, .pu), (25, .pu), (26, .rd), (27, .pu), (28, .rd), (29, .pu), (30, .pu), (31, .rd), (32, .pu), (33, .pu), (34, .rd), (35, .pu), (36, .rd), (37, .pu), (38, .pu), (39, .pu), (40, .rd), (41, .rd), (42, .pu), (43, .pu)] mixed (ClE.sat _ _) (by kernel_rfl) ?_
          refine dp rfl (Pu.fieldAddr fd52_2 rfl) (dq rfl (Qt.ldB 3 ty23 rfl rfl rfl) (dp rfl (Pu.lenSl sl23 rfl) (dp rfl (Pu.fieldAddr fd52_1 rfl) (dq rfl (Qt.ldB 3 ty23 rfl rfl rfl) (dp rfl (Pu.lenSl sl23 rfl) ?_)))))
          obtain ⟨g34, H⟩ := gdE H
          refine dp rfl (Pu.addS rfl rfl g34) (dp rfl (Pu.bin rfl rfl rfl) (dp rfl (Pu.move rfl) ?_))
          refine RD.joinB H 15 118 (fun b37 => .bool b37) [(1, _), (5, _), (7, _), (8, _)] ⟨rfl, rfl, rfl, rfl, trivial⟩ ?_ ?_
          ·intro b37 H
           refine dp rfl (Pu.move rfl) ?_
           refine RD.joinB H 19 138 (fun b40 => .bool b40) [(1, _), (5, _), (7, _), (8, _)] ⟨rfl, rfl, rfl, rfl, trivial⟩ ?_ ?_
           ·intro b40 H
            refine RD.nil (hK23 _ _ ?_)
            refine T.cond rfl (fun hc41 => ?_) (fun hc41 => ?_)
            ·have H := ifT hc41 H
             refine cq [] ?_
             refine T.seq fun K24 hK24 => T.region (rA rfl (RS.nil (hK24 _ _ ?_)))
             obtain rfl := hd15 _ H
             have H := HX15
             obtain rfl := sj H
             refine T.rt (Cont.ret1 rfl rfl fun w' s => ?_)
             exact ⟨rfl, s.ext⟩
            ·have H := ifB hc41 H
             refine T.skip (hK22 _ _ ?_)
             refine T.seq fun K25 hK25 => T.region (rA rfl (RS.nil (hK25 _ _ ?_)))
             refine T.joinE (σ := Unit) (γ := Unit) H Ex.go [(1, _), (5, _), (7, _)] ⟨rfl, rfl, rfl, trivial⟩ (fun _ _ => []) (fun _ _ => Sat w [blk b1 [.int .i64 a0_p.g.w, .int .i64 a0_p.g.h, .slice p0 a0_p.g.tiles.length c0, .slice p1 a0_p.l.length c1, .int .i64 a0_p.cls, .int .i64 a0_p.size, .slice p2 a0_p.ts.length c2] 39, row nilH 4 (rowV q8 x7.1.length) x7.1, row nilH 67 (rowV q12 x11.1.length) x11.1, blk q24 [.int .i64 v25, rowV q28 v27.length, rowV q30 v29.length] 52, row nilH 3 (rowV q28 v27.length) v27, row nilH 3 (rowV q30 v29.length) v29]) ?_ ?_
             ·rintro ⟨⟩ ⟨⟩ H
              try dsimp only [Ex.then] at H
              refine Cont.conseq (fr' := [(1, _), (5, _), (7, _)]) ?_ ⟨rfl, rfl, rfl, trivial⟩ (fun _ s => s)
              refine id (hK18 _ _ ?_)
              refine T.region (rM rfl ?_)
              obtain ⟨g43, H⟩ := gdE H
              refine rp (Pu.addS rfl rfl g43) (rA rfl (RS.nil (hL15 _ _ (v17 + 1) () H ⟨rfl, rfl, trivial⟩ ⟨rfl, trivial⟩ (fun w s => s.pick [0, 1, 2] (by decide) rfl))))
             ·intro z42 hz42 HX42 hJ42
              refine T.block ?_
              refine T.loopA (γ := Unit) hz42 [(1, _), (5, _), (7, _), (8, _)] (fun v44 _ => [(10, .int .i64 v44)]) (fun v44 _ => Sat w [blk b1 [.int .i64 a0_p.g.w, .int .i64 a0_p.g.h, .slice p0 a0_p.g.tiles.length c0, .slice p1 a0_p.l.length c1, .int .i64 a0_p.cls, .int .i64 a0_p.size, .slice p2 a0_p.ts.length c2] 39, row nilH 4 (rowV q8 x7.1.length) x7.1, row nilH 67 (rowV q12 x11.1.length) x11.1, blk q24 [.int .i64 v25, rowV q28 v27.length, rowV q30 v29.length] 52, row nilH 3 (rowV q28 v27.length) v27, row nilH 3 (rowV q30 v29.length) v29]) () ⟨rfl, rfl, rfl, rfl, trivial⟩ ⟨rfl, trivial⟩ (fun w s => s) ?_
              rintro v44 ⟨⟩ y45 H hd42 KL42 hL42
              try dsimp only [Ex.then] at H
              refine cq [(10, _), (1, _), (5, _), (7, _), (8, _)] ?_
              refine T.seq fun K26 hK26 => T.seq fun K27 hK27 => T.region (rM rfl (rp (Pu.fieldAddr fd52_1 rfl) (rq (Qt.ldB 3 ty23 rfl rfl rfl) (rp (Pu.lenSl sl23 rfl) (rp (Pu.bin rfl rfl rfl) (RS.nil (hK27 _ _ ?_)))))))
              refine T.condP rfl (fun hc46 => ?_) (fun hc46 => ?_)
              ·have H := ifT hc46 H
               refine T.skip (hK26 _ _ (cq [(1, _), (5, _), (7, _), (8, _), (10, _)] ?_))
               refine T.seq fun K28 hK28 => T.block (T.seq fun K29 hK29 => T.region (rp (Pu.fieldAddr fd52_1 rfl) (rq (Qt.ldB 3 ty23 rfl rfl rfl) (rM rfl ?_))))
               obtain ⟨g47, H⟩ := gdE H
               refine RS.know (p := ∃ g cap, q28 = (some g, cap)) (fun w s => (s.row_some (k := 4) rfl (pos_of g47))) ?_
               rintro ⟨gg48, cc49, rfl⟩
               refine rp (Pu.indexSl sl23 rfl rfl g47) (rq (Qt.ld0 (α := Int) (Rd.ofRowN 4 rfl) ty3 rfl rfl g47 (by rintro _ _ rfl; rfl)) (rA rfl (RS.nil (hK29 _ _ (cq [(1, _), (5, _), (7, _), (8, _), (10, _), (11, _)] ?_)))))
               refine T.seq fun K30 hK30 => T.seq fun K31 hK31 => T.region (rM rfl (rp (Pu.bin rfl rfl rfl) (rM rfl ?_)))
               refine RS.joinV 5 158 (.bool (decide (((gi v27 v44) < 0) ∨ ((x11.1.length : Int) ≤ (gi v27 v44))))) [(1, _), (5, _), (7, _), (8, _), (10, _), (11, _)] ⟨rfl, rfl, rfl, rfl, rfl, rfl, trivial⟩ ?_ ?_
               ·refine rM rfl ?_
                refine RS.joinB H 8 167 (fun b54 => .bool b54) [(1, _), (5, _), (7, _), (8, _), (10, _), (11, _)] ⟨rfl, rfl, rfl, rfl, rfl, rfl, trivial⟩ ?_ ?_
                ·intro b54 H
                 refine RS.nil (hK31 _ _ ?_)
                 refine T.cond rfl (fun hc55 => ?_) (fun hc55 => ?_)
                 ·have H := ifT hc55 H
                  refine cq [] ?_
                  refine T.seq fun K32 hK32 => T.region (rA rfl (RS.nil (hK32 _ _ ?_)))
                  obtain rfl := hd42 _ H
                  have H := HX42
                  obtain rfl := hd15 _ H
                  have H := HX15
                  obtain rfl := sj H
                  refine T.rt (Cont.ret1 rfl rfl fun w' s => ?_)
                  exact ⟨rfl, s.ext⟩
                 ·have H := ifB hc55 H
                  refine T.skip (hK30 _ _ ?_)
                  refine T.seq fun K33 hK33 => ?_
                  refine T.drawn (fun _ => True) [(0, .pu), (1, .pu), (2, .rd), (3, .pu), (4, .pu), (5, .pu), (6, .pu), (7, .rd), (8, .rd), (9, .pu), (10, .pu), (11, .rd), (12, .pu), (13, .pu), (14, .pu), (15, .pu), (16, .rd), (17, .rd), (18, .pu), (19, .pu)] mixed (ClE.sat _ _) (by kernel_rfl) ?_
                  refine dp rfl (Pu.fieldAddr fd39_0 rfl) (dp rfl (Pu.fieldAddr fd36_0 rfl) (dq rfl (Qt.ldB 0 ty3 rfl rfl rfl) (dp rfl (Pu.move rfl) (dp rfl (Pu.move rfl) ?_))))
                  obtain ⟨g56, H⟩ := gdE H
                  refine RD.know (p := ∃ g cap, q12 = (some g, cap)) (fun w s => (s.row_some (k := 2) rfl (pos_of g56))) ?_
                  rintro ⟨gg57, cc58, rfl⟩
                  refine dp rfl (Pu.indexSl sl62 rfl rfl g56) (dp rfl (Pu.fieldAddr fd67_0 rfl) (dq rfl (Qt.ldF (α := Prt) (Rd.ofRowN 2 rfl) ty3 rfl rfl g56 (by rintro _ _ rfl; rfl)) ?_))
                  obtain ⟨x59, hx59, H⟩ := bindE H
                  refine dq rfl (Qt.call (vs := [.int .i64 a0_p.g.w, .int .i64 ((gi x11.1 (gi v27 v44)).a)]) ent32 rfl fun w s => throngref10_Of_walk a0_p.g.w ((gi x11.1 (gi v27 v44)).a) w  hx59) (dp rfl (Pu.fieldAddr fd39_0 rfl) (dp rfl (Pu.fieldAddr fd36_0 rfl) (dq rfl (Qt.ldB 0 ty3 rfl rfl rfl) (dp rfl (Pu.move rfl) (dp rfl (Pu.move rfl) ?_)))))
                  obtain ⟨g60, H⟩ := gdE H
                  refine dp rfl (Pu.indexSl sl62 rfl rfl g60) (dp rfl (Pu.fieldAddr fd67_1 rfl) (dq rfl (Qt.ldF (α := Prt) (Rd.ofRowN 2 rfl) ty3 rfl rfl g60 (by rintro _ _ rfl; rfl)) ?_))
                  obtain ⟨x61, hx61, H⟩ := bindE H
                  refine dq rfl (Qt.call (vs := [.int .i64 a0_p.g.w, .int .i64 ((gi x11.1 (gi v27 v44)).b)]) ent32 rfl fun w s => throngref10_Of_walk a0_p.g.w ((gi x11.1 (gi v27 v44)).b) w  hx61) (dp rfl (Pu.assign rfl) (dp rfl (Pu.assign rfl) (RD.nil (hK33 _ _ (cq [(1, _), (5, _), (7, _), (8, _), (10, _), (12, _), (13, _)] ?_)))))
                  refine T.seq fun K34 hK34 => T.region (rM rfl (rp (Pu.fieldAddr fd52_2 rfl) (rq (Qt.ldB 3 ty23 rfl rfl rfl) (rM rfl ?_))))
                  obtain ⟨g62, H⟩ := gdE H
                  refine RS.know (p := ∃ g cap, q30 = (some g, cap)) (fun w s => (s.row_some (k := 5) rfl (pos_of g62))) ?_
                  rintro ⟨gg63, cc64, rfl⟩
                  refine rp (Pu.indexSl sl23 rfl rfl g62) (rq (Qt.ld0 (α := Int) (Rd.ofRowN 5 rfl) ty3 rfl rfl g62 (by rintro _ _ rfl; rfl)) (rp (Pu.bin rfl rfl rfl) (rM rfl ?_)))
                  obtain ⟨g67, H⟩ := gdE H
                  obtain ⟨g68, H⟩ := gdE H
                  refine RS.joinV 9 202 (.bool (decide ((x59 = (gi v29 v44)) ∧ (x61 = (gi v29 (v44 + 1)))))) [(1, _), (5, _), (7, _), (8, _), (10, _), (12, _), (13, _)] ⟨rfl, rfl, rfl, rfl, rfl, rfl, rfl, trivial⟩ ?_ ?_
                  ·refine rp (Pu.notP rfl) (rM rfl ?_)
                   obtain ⟨g71, H⟩ := gdE H
                   obtain ⟨g72, H⟩ := gdE H
                   obtain ⟨g73, H⟩ := gdE H
                   refine RS.joinV 19 223 (.bool (decide ((¬ ((x59 = (gi v29 v44)) ∧ (x61 = (gi v29 (v44 + 1))))) ∧ (¬ ((x61 = (gi v29 v44)) ∧ (x59 = (gi v29 (v44 + 1)))))))) [(1, _), (5, _), (7, _), (8, _), (10, _)] ⟨rfl, rfl, rfl, rfl, rfl, trivial⟩ ?_ ?_
                   ·refine RS.nil (hK34 _ _ ?_)
                    refine T.condP rfl (fun hc74 => ?_) (fun hc74 => ?_)
                    ·have H := ifT hc74 H
                     refine cq [] ?_
                     refine T.seq fun K35 hK35 => T.region (rA rfl (RS.nil (hK35 _ _ ?_)))
                     obtain rfl := hd42 _ H
                     have H := HX42
                     obtain rfl := hd15 _ H
                     have H := HX15
                     obtain rfl := sj H
                     refine T.rt (Cont.ret1 rfl rfl fun w' s => ?_)
                     exact ⟨rfl, s.ext⟩
                    ·have H := ifF hc74 H
                     refine T.skip (hK28 _ _ ?_)
                     refine T.region (rM rfl ?_)
                     obtain ⟨g75, H⟩ := gdE H
                     refine rp (Pu.addS rfl rfl g75) (rA rfl (RS.nil (hL42 _ _ (v44 + 1) () H ⟨rfl, rfl, rfl, rfl, trivial⟩ ⟨rfl, trivial⟩ (fun w s => s))))
                   ·intro hJ70
                    refine RS.splitP 204 rfl (fun hc69 => ?_) (fun hc69 => ?_)
                    ·refine rM rfl (rp (Pu.fieldAddr fd52_2 rfl) (rq (Qt.ldB 3 ty23 rfl rfl rfl) (rM rfl (rp (Pu.indexSl sl23 rfl rfl (g71 hc69)) (rq (Qt.ld0 (α := Int) (Rd.ofRowN 5 rfl) ty3 rfl rfl (g71 hc69) (by rintro _ _ rfl; rfl)) (rp (Pu.bin rfl rfl rfl) (rM rfl ?_)))))))
                     refine RS.joinV 9 221 (.bool (decide ((x61 = (gi v29 v44)) ∧ (x59 = (gi v29 (v44 + 1)))))) [(1, _), (5, _), (7, _), (8, _), (10, _), (12, _), (13, _), (202, _), (203, _), (204, _), (205, _), (206, _), (207, _), (208, _), (209, _), (210, _), (211, _)] ⟨rfl, rfl, rfl, rfl, rfl, rfl, rfl, rfl, rfl, rfl, rfl, rfl, rfl, rfl, rfl, rfl, rfl, trivial⟩ ?_ ?_
                     ·refine rp (Pu.notP rfl) (rp (Pu.pickT rfl rfl) ?_)
                      exact hJ70 _ _ ⟨dAndT hc69, rfl, rfl, rfl, rfl, rfl, trivial⟩ (fun w s => s)
                     ·intro hJ77
                      refine RS.splitP 212 rfl (fun hc76 => ?_) (fun hc76 => ?_)
                      ·refine rM rfl (rp (Pu.fieldAddr fd52_2 rfl) (rq (Qt.ldB 3 ty23 rfl rfl rfl) (rM rfl (rp (Pu.addS rfl rfl ((g72 hc69) hc76)) (rp (Pu.indexSl sl23 rfl rfl ((g73 hc69) hc76)) (rq (Qt.ld0 (α := Int) (Rd.ofRowN 5 rfl) ty3 rfl rfl ((g73 hc69) hc76) (by rintro _ _ rfl; rfl)) (rp (Pu.bin rfl rfl rfl) (rp (Pu.pickT rfl rfl) ?_))))))))
                       exact hJ77 _ _ ⟨dAndT hc76, rfl, rfl, rfl, rfl, rfl, rfl, rfl, rfl, rfl, rfl, rfl, rfl, rfl, rfl, rfl, rfl, rfl, trivial⟩ (fun w s => s)
                      ·refine ro (ro (ro (ro (ro (ro (ro (ro (rp (Pu.pickF rfl rfl) ?_))))))))
                       exact hJ77 _ _ ⟨dAndF hc76, rfl, rfl, rfl, rfl, rfl, rfl, rfl, rfl, rfl, rfl, rfl, rfl, rfl, rfl, rfl, rfl, rfl, trivial⟩ (fun w s => s)
                    ·refine ro (ro (ro (ro (ro (ro (ro (ro (ro (ro (ro (ro (ro (ro ?_)))))))))))))
                     refine ro (ro (ro (ro (rp (Pu.pickF rfl rfl) ?_))))
                     exact hJ70 _ _ ⟨dAndF hc69, rfl, rfl, rfl, rfl, rfl, trivial⟩ (fun w s => s)
                  ·intro hJ66
                   refine RS.splitP 193 rfl (fun hc65 => ?_) (fun hc65 => ?_)
                   ·refine rM rfl (rp (Pu.fieldAddr fd52_2 rfl) (rq (Qt.ldB 3 ty23 rfl rfl rfl) (rM rfl (rp (Pu.addS rfl rfl (g67 hc65)) (rp (Pu.indexSl sl23 rfl rfl (g68 hc65)) (rq (Qt.ld0 (α := Int) (Rd.ofRowN 5 rfl) ty3 rfl rfl (g68 hc65) (by rintro _ _ rfl; rfl)) (rp (Pu.bin rfl rfl rfl) (rp (Pu.pickT rfl rfl) ?_))))))))
                    exact hJ66 _ _ ⟨dAndT hc65, rfl, rfl, rfl, rfl, rfl, rfl, rfl, trivial⟩ (fun w s => s)
                   ·refine ro (ro (ro (ro (ro (ro (ro (ro (rp (Pu.pickF rfl rfl) ?_))))))))
                    exact hJ66 _ _ ⟨dAndF hc65, rfl, rfl, rfl, rfl, rfl, rfl, rfl, trivial⟩ (fun w s => s)
                ·intro z78 H hJ53
                 refine RS.splitP 159 rfl (fun hc52 => ?_) (fun hc52 => ?_)
                 ·have H := ifT hc52 H
                  refine ro (ro (ro (ro (ro (ro (ro (rp (Pu.pickT rfl rfl) ?_)))))))
                  obtain rfl := sj H
                  exact hJ53 _ _ ⟨rfl, rfl, rfl, rfl, rfl, rfl, rfl, trivial⟩ (fun w s => s)
                 ·have H := ifF hc52 H
                  refine rp (Pu.fieldAddr fd52_1 rfl) (rq (Qt.ldB 3 ty23 rfl rfl rfl) (rM rfl ?_))
                  obtain ⟨g79, H⟩ := gdE H
                  refine RS.know (fun w s => (s.row_fits (q := (some gg48, cc49)) (m := v27.length) (k := 4) rfl)) fun hf80 => ?_
                  refine rp (Pu.sliceH sl23 rfl rfl (le_cap g79 hf80.2.1)) (rM rfl ?_)
                  obtain ⟨x81, hx81, H⟩ := bindE H
                  refine rq (Qt.call (vs := [.slice (some ⟨gg48, 0, none⟩) (v44.toNat) cc49, .int .i64 (gi v27 v44)]) ent33 rfl fun w s => throngref0_In_walk (v27.take v44.toNat) (gi v27 v44) w ((Rd.take (Rd.ofRowN 4 rfl) (le_nat g79)) w s) hx81) (rp (Pu.bin rfl rfl rfl) (rp (Pu.pickF rfl rfl) ?_))
                  obtain rfl := sj H
                  exact hJ53 _ _ ⟨rfl, rfl, rfl, rfl, rfl, rfl, rfl, trivial⟩ (fun w s => s)
               ·intro hJ51
                refine RS.splitP 153 rfl (fun hc50 => ?_) (fun hc50 => ?_)
                ·refine ro (ro (ro (ro (rp (Pu.pickT rfl rfl) ?_))))
                 exact hJ51 _ _ ⟨dOrT hc50, rfl, rfl, rfl, rfl, rfl, rfl, trivial⟩ (fun w s => s)
                ·refine rM rfl (rM rfl (rp (Pu.lenSl sl62 rfl) (rp (Pu.bin rfl rfl rfl) (rp (Pu.pickF rfl rfl) ?_))))
                 exact hJ51 _ _ ⟨dOrF hc50, rfl, rfl, rfl, rfl, rfl, rfl, trivial⟩ (fun w s => s)
              ·have H := ifF hc46 H
               obtain rfl := hd42 _ H
               refine T.xt (hJ42 _ _ () () HX42 ⟨rfl, rfl, rfl, trivial⟩ trivial (fun w s => s))
           ·intro z82 H hJ39
            refine RD.split 119 rfl (fun hc38 => ?_) (fun hc38 => ?_)
            ·have H := ifT hc38 H
             refine dn rfl (dn rfl (dn rfl (dn rfl (dn rfl (dn rfl (dn rfl (dn rfl (dn rfl (dn rfl (dn rfl (dn rfl (dn rfl (dn rfl ?_)))))))))))))
             refine dn rfl (dn rfl (dn rfl (dn rfl (dp rfl (Pu.pickT rfl rfl) ?_))))
             obtain rfl := sj H
             exact hJ39 _ ⟨rfl, rfl, rfl, rfl, rfl, trivial⟩
            ·have H := ifB hc38 H
             refine dp rfl (Pu.fieldAddr fd52_2 rfl) (dq rfl (Qt.ldB 3 ty23 rfl rfl rfl) (dp rfl (Pu.fieldAddr fd52_1 rfl) (dq rfl (Qt.ldB 3 ty23 rfl rfl rfl) (dp rfl (Pu.lenSl sl23 rfl) ?_))))
             obtain ⟨g83, H⟩ := gdE H
             refine RD.know (p := ∃ g cap, q30 = (some g, cap)) (fun w s => (s.row_some (k := 5) rfl (pos_of g83))) ?_
             rintro ⟨gg84, cc85, rfl⟩
             refine dp rfl (Pu.indexSl sl23 rfl rfl g83) (dq rfl (Qt.ld0 (α := Int) (Rd.ofRowN 5 rfl) ty3 rfl rfl g83 (by rintro _ _ rfl; rfl)) (dp rfl (Pu.fieldAddr fd39_0 rfl) (dp rfl (Pu.fieldAddr fd36_0 rfl) (dq rfl (Qt.ldB 0 ty3 rfl rfl rfl) (dp rfl (Pu.fieldAddr fd39_4 rfl) (dq rfl (Qt.ldB 0 ty23 rfl rfl rfl) (dp rfl (Pu.move rfl) ?_)))))))
             obtain ⟨g86, H⟩ := gdE H
             refine dp rfl (Pu.addS rfl rfl g86) ?_
             obtain ⟨g87, H⟩ := gdE H
             obtain ⟨bl88, ol89, rfl⟩ := R_ptr h2 (ne_of_pos (pos_of g87))
             refine dp rfl (Pu.indexSl sl23 rfl rfl g87) (dq rfl (Qt.ld0 (α := Int) (Rd.base h2) ty3 rfl rfl g87 (by rintro _ _ rfl; rfl)) ?_)
             obtain ⟨x90, hx90, H⟩ := bindE H
             refine dq rfl (Qt.call (vs := [.int .i64 a0_p.g.w, .int .i64 (gi a0_p.ts (v17 + 1))]) ent32 rfl fun w s => throngref10_Of_walk a0_p.g.w (gi a0_p.ts (v17 + 1)) w  hx90) (dp rfl (Pu.bin rfl rfl rfl) (dp rfl (Pu.pickF rfl rfl) ?_))
             obtain rfl := sj H
             exact hJ39 _ ⟨rfl, rfl, rfl, rfl, rfl, trivial⟩
          ·intro z91 H hJ36
           refine RD.splitP 103 rfl (fun hc35 => ?_) (fun hc35 => ?_)
           ·have H := ifT hc35 H
            refine dn rfl (dn rfl (dn rfl (dn rfl (dn rfl (dn rfl (dn rfl (dn rfl (dn rfl (dn rfl (dn rfl (dn rfl (dn rfl (dn rfl ?_)))))))))))))
            refine dp rfl (Pu.pickT rfl rfl) ?_
            obtain rfl := sj H
            exact hJ36 _ ⟨rfl, rfl, rfl, rfl, rfl, trivial⟩
           ·have H := ifF hc35 H
            refine dp rfl (Pu.fieldAddr fd52_2 rfl) (dq rfl (Qt.ldB 3 ty23 rfl rfl rfl) ?_)
            obtain ⟨g92, H⟩ := gdE H
            refine RD.know (p := ∃ g cap, q30 = (some g, cap)) (fun w s => (s.row_some (k := 5) rfl (pos_of g92))) ?_
            rintro ⟨gg93, cc94, rfl⟩
            refine dp rfl (Pu.indexSl sl23 rfl rfl g92) (dq rfl (Qt.ld0 (α := Int) (Rd.ofRowN 5 rfl) ty3 rfl rfl g92 (by rintro _ _ rfl; rfl)) (dp rfl (Pu.fieldAddr fd39_0 rfl) (dp rfl (Pu.fieldAddr fd36_0 rfl) (dq rfl (Qt.ldB 0 ty3 rfl rfl rfl) (dp rfl (Pu.fieldAddr fd39_4 rfl) (dq rfl (Qt.ldB 0 ty23 rfl rfl rfl) (dp rfl (Pu.move rfl) ?_)))))))
            obtain ⟨g95, H⟩ := gdE H
            obtain ⟨bl96, ol97, rfl⟩ := R_ptr h2 (ne_of_pos (pos_of g95))
            refine dp rfl (Pu.indexSl sl23 rfl rfl g95) (dq rfl (Qt.ld0 (α := Int) (Rd.base h2) ty3 rfl rfl g95 (by rintro _ _ rfl; rfl)) ?_)
            obtain ⟨x98, hx98, H⟩ := bindE H
            refine dq rfl (Qt.call (vs := [.int .i64 a0_p.g.w, .int .i64 (gi a0_p.ts v17)]) ent32 rfl fun w s => throngref10_Of_walk a0_p.g.w (gi a0_p.ts v17) w  hx98) (dp rfl (Pu.bin rfl rfl rfl) (dp rfl (Pu.pickF rfl rfl) ?_))
            obtain rfl := sj H
            exact hJ36 _ ⟨rfl, rfl, rfl, rfl, rfl, trivial⟩
        ·intro z23 H HX23 K19 hJ23
         refine T.drawnT (fun _ => True) [(0, .pu), (1, .rd), (2, .pu), (3, .rd), (4, .pu), (5, .rd), (6, .pu), (7, .rd), (8, .pu), (9, .rd), (10, .pu), (11, .pu), (12, .rd), (13, .pu), (14, .rd), (15, .pu), (16, .pu), (17, .pu), (18, .rd), (19, .so), (20, .pu), (21, .pu), (22, .pu), (23, .so), (24, .br), (25, .pu)] (.st 0 .pu (.st 1 .rd (.st 2 .pu (.st 3 .rd (.st 4 .pu (.st 5 .rd (.st 6 .pu (.st 7 .rd (.st 8 .pu (.st 9 .rd (.st 10 .pu (.st 11 .pu (.st 12 .rd (.st 13 .pu (.st 14 .rd (.st 15 .pu (.st 16 .pu (.st 17 .pu (.st 18 .rd (.two 19 .so (.st 20 .pu (.st 21 .pu (.st 22 .pu (.st 23 .so (.st 24 .br (.st 25 .pu .nil)))))) 23 .so (.st 19 .so (.st 20 .pu (.st 21 .pu (.st 22 .pu (.st 24 .br (.st 25 .pu .nil)))))))))))))))))))))))))) mixed (ClE.sat _ _) (by kernel_rfl) ?_
         refine RT.p (fun _ _ => trivial) rfl (Pu.fieldAddr fd39_0 rfl) rfl rfl (RT.q (fun _ _ => trivial) rfl (Qt.ldBA (us := [_, _, _]) 0 ty36 rfl rfl rfl rfl) rfl rfl (RT.p (fun _ _ => trivial) rfl (Pu.fieldAddr fd39_1 rfl) rfl rfl (RT.q (fun _ _ => trivial) rfl (Qt.ldB 0 ty37 rfl rfl rfl) rfl rfl (RT.p (fun _ _ => trivial) rfl (Pu.fieldAddr fd39_2 rfl) rfl rfl (RT.q (fun _ _ => trivial) rfl (Qt.ldB 0 ty3 rfl rfl rfl) rfl rfl (RT.p (fun _ _ => trivial) rfl (Pu.fieldAddr fd39_3 rfl) rfl rfl (RT.q (fun _ _ => trivial) rfl (Qt.ldB 0 ty3 rfl rfl rfl) rfl rfl (RT.p (fun _ _ => trivial) rfl (Pu.fieldAddr fd39_4 rfl) rfl rfl (RT.q (fun _ _ => trivial) rfl (Qt.ldB 0 ty23 rfl rfl rfl) rfl rfl (RT.p (fun _ _ => trivial) rfl (Pu.move rfl) rfl rfl ?_))))))))))
         obtain ⟨g99, H⟩ := gdE H
         obtain ⟨bl100, ol101, rfl⟩ := R_ptr h2 (ne_of_pos (pos_of g99))
         refine RT.p (fun _ _ => trivial) rfl (Pu.indexSl sl23 rfl rfl g99) rfl rfl (RT.q (fun _ _ => trivial) rfl (Qt.ld0 (α := Int) (Rd.base h2) ty3 rfl rfl g99 (by rintro _ _ rfl; rfl)) rfl rfl (RT.p (fun _ _ => trivial) rfl (Pu.fieldAddr fd39_4 rfl) rfl rfl (RT.q (fun _ _ => trivial) rfl (Qt.ldB 0 ty23 rfl rfl rfl) rfl rfl (RT.p (fun _ _ => trivial) rfl (Pu.move rfl) rfl rfl ?_))))
         obtain ⟨g102, H⟩ := gdE H
         refine RT.p (fun _ _ => trivial) rfl (Pu.addS rfl rfl g102) rfl rfl ?_
         obtain ⟨g103, H⟩ := gdE H
         refine RT.p (fun _ _ => trivial) rfl (Pu.indexSl sl23 rfl rfl g103) rfl rfl (RT.q (fun _ _ => trivial) rfl (Qt.ld0 (α := Int) (Rd.base h2) ty3 rfl rfl g103 (by rintro _ _ rfl; rfl)) rfl rfl ?_)
         obtain ⟨x104, hx104, H⟩ := bindE H
         refine RT.two ?_ ?_
         ·refine RT1.solid rfl (.inl rfl) rfl rfl (Sd.callN (vs := [.agg #[.int .i64 a0_p.g.w, .int .i64 a0_p.g.h, .slice p0 a0_p.g.tiles.length c0], .slice p1 a0_p.l.length c1, .int .i64 a0_p.cls, .int .i64 a0_p.size, .int .i64 (gi a0_p.ts v17), .int .i64 (gi a0_p.ts (v17 + 1))]) ent25 rfl (fun w s => route_Find_walk a0_p.g a0_p.l a0_p.cls a0_p.size (gi a0_p.ts v17) (gi a0_p.ts (v17 + 1)) w ((Rd.base h0) w s) ((Rd.base h1) w s) hx104)) (fun _ => ClE.sat _ _) (fun _ _ _ => trivial) (fun _ _ _ s => s.drop1) fun ⟨q304, q305⟩ => ?_
          refine RT.p (fun _ _ => trivial) rfl (Pu.move rfl) rfl rfl (RT.p (fun _ _ => trivial) rfl (Pu.extract rfl rfl) rfl rfl (RT.p (fun _ _ => trivial) rfl (Pu.extract rfl rfl) rfl rfl (RT.solid rfl (.inl rfl) rfl rfl (Sd.alloc zr52 rfl) (fun _ => ClE.sat _ _) (fun _ _ _ => trivial) (fun _ _ _ s => s.drop1) fun b306 => ?_)))
          refine RT.solid rfl (.inr rfl) rfl rfl (Sd.stB (cs' := [_, _, _]) 5 ty52 rfl rfl rfl rfl rfl rfl rfl rfl) (fun _ => ClE.sat _ _) (fun _ _ _ => trivial) (fun h => nomatch h) fun _ => ?_
          refine RT.p (fun _ _ => trivial) rfl (Pu.assign rfl) rfl rfl ?_
          obtain rfl := sj H
          refine RT.nil (hJ23 _ _ (x104.1.cost, x104.2, x104.1.portals, x104.1.sectors) (b306, q304, q305) HX23 ⟨rfl, rfl, rfl, trivial⟩ ⟨rfl, rfl, trivial⟩ (fun w s => s.pick [0, 1, 2, 5, 3, 4] (by decide) rfl))
         ·refine RT1.solid rfl (.inl rfl) rfl rfl (Sd.alloc zr52 rfl) (fun _ => ClE.sat _ _) (fun _ _ _ => trivial) (fun _ _ _ s => s.drop1) fun b307 => ?_
          refine RT.solid rfl (.inl rfl) rfl rfl (Sd.callN (vs := [.agg #[.int .i64 a0_p.g.w, .int .i64 a0_p.g.h, .slice p0 a0_p.g.tiles.length c0], .slice p1 a0_p.l.length c1, .int .i64 a0_p.cls, .int .i64 a0_p.size, .int .i64 (gi a0_p.ts v17), .int .i64 (gi a0_p.ts (v17 + 1))]) ent25 rfl (fun w s => route_Find_walk a0_p.g a0_p.l a0_p.cls a0_p.size (gi a0_p.ts v17) (gi a0_p.ts (v17 + 1)) w ((Rd.base h0) w s) ((Rd.base h1) w s) hx104)) (fun _ => ClE.sat _ _) (fun _ _ _ => trivial) (fun _ _ _ s => s.drop1) fun ⟨q308, q309⟩ => ?_
          refine RT.p (fun _ _ => trivial) rfl (Pu.move rfl) rfl rfl (RT.p (fun _ _ => trivial) rfl (Pu.extract rfl rfl) rfl rfl (RT.p (fun _ _ => trivial) rfl (Pu.extract rfl rfl) rfl rfl (RT.solid rfl (.inr rfl) rfl rfl (Sd.stB (cs' := [_, _, _]) 3 ty52 rfl rfl rfl rfl rfl rfl rfl rfl) (fun _ => ClE.sat _ _) (fun _ _ _ => trivial) (fun h => nomatch h) fun _ => ?_)))
          refine RT.p (fun _ _ => trivial) rfl (Pu.assign rfl) rfl rfl ?_
          obtain rfl := sj H
          refine RT.nil (hJ23 _ _ (x104.1.cost, x104.2, x104.1.portals, x104.1.sectors) (b307, q308, q309) HX23 ⟨rfl, rfl, rfl, trivial⟩ ⟨rfl, rfl, trivial⟩ (fun w s => s))
       ·have H := ifF hc22 H
        obtain rfl := hd15 _ H
        refine T.xt (hJ15 _ _ () () HX15 trivial trivial (fun w s => s))
      ·intro hJ21
       refine RS.splitP 63 rfl (fun hc20 => ?_) (fun hc20 => ?_)
       ·refine rM rfl (rp (Pu.bin rfl rfl rfl) (rp (Pu.pickT rfl rfl) ?_))
        exact hJ21 _ _ ⟨dAndT hc20, rfl, rfl, rfl, trivial⟩ (fun w s => s)
       ·refine ro (ro (rp (Pu.pickF rfl rfl) ?_))
        exact hJ21 _ _ ⟨dAndF hc20, rfl, rfl, rfl, trivial⟩ (fun w s => s)
 ·intro z310 H hJ4
  refine RS.split 16 rfl (fun hc3 => ?_) (fun hc3 => ?_)
  ·have H := ifT hc3 H
   refine ro (ro (ro (ro (ro (ro (ro (ro (ro (ro (rp (Pu.pickT rfl rfl) ?_))))))))))
   obtain rfl := sj H
   exact hJ4 _ _ ⟨rfl, rfl, trivial⟩ (fun w s => s)
  ·have H := ifB hc3 H
   refine rp (Pu.fieldAddr fd39_0 rfl) (rq (Qt.ldBA (us := [_, _, _]) 0 ty36 rfl rfl rfl rfl) (rp (Pu.fieldAddr fd39_1 rfl) (rq (Qt.ldB 0 ty37 rfl rfl rfl) (rp (Pu.fieldAddr fd39_2 rfl) (rq (Qt.ldB 0 ty3 rfl rfl rfl) (rp (Pu.fieldAddr fd39_3 rfl) (rq (Qt.ldB 0 ty3 rfl rfl rfl) ?_)))))))
   obtain ⟨x311, hx311, H⟩ := bindE H
   refine rq (Qt.call (vs := [.agg #[.int .i64 a0_p.g.w, .int .i64 a0_p.g.h, .slice p0 a0_p.g.tiles.length c0], .slice p1 a0_p.l.length c1, .int .i64 a0_p.cls, .int .i64 a0_p.size]) ent14 rfl fun w s => throngref13_May_walk a0_p.g a0_p.l a0_p.cls a0_p.size w ((Rd.base h0) w s) ((Rd.base h1) w s) hx311) (rp (Pu.not rfl) (rp (Pu.pickF rfl rfl) ?_))
   obtain rfl := sj H
   exact hJ4 _ _ ⟨rfl, rfl, trivial⟩ (fun w s => s)
end Go.Proofs.YthdbofgcckjopaaGreat
